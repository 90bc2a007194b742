/-
 Contracts of functions. Conditions: as each theorem says.
-/
import Derived.Test.YtfkddbkjmkceaaaGreatDoorFnKK
import Derived.Test.YtfkddbkjmkceaaaGreatDoorPlOrd2
import Derived.Test.YtfkddbkjmkceaaaGreatDoorAwC
namespace Go.Proofs.YtfkddbkjmkceaaaGreatDoor
open Tryz (prog)
open Nat (reduceEqDiff reduceLeDiff)
open List
open Go.AW
set_option linter.unusedVariables false
set_option linter.unusedSimpArgs false
set_option maxRecDepth 4000
def cP_ (n : ByteArray) (s : List ByteArray) : Bool := bY_ n && bm_ s
def Ct_ : LC :=
 .q [.o [.f 4], .o [.m 5 0, .c1 6 92 5, .m 7 6, .gm 8 7 true 1, .gc 9 7 true 95 8, .pf 10 7 9, .m 4 10], .ret]
def wI_ : LF := ⟨2, 11, Ct_, [.tmp 4]⟩
theorem zC_ : au_ prog Tryz.f121 wI_ := ah_
theorem fh_ (n : ByteArray) (s : List ByteArray) (hn : n.size ≤ 1048576) (hs : s.length ≤ 1048576) (h : List Row) : aa_ prog 121 [.val (.string n), .list 0 1 (s.map am_)] h (.val (.bool (cP_ n s))) := by
 refine aj_ mixed Tryz.func121 zC_ rfl rfl ?_ h
 simp (disch := omega) only [wI_, Ct_, go_sem, reduceCtorEq, ↓reduceIte]
 repeat' (first
  | exact af_ _ _
  | (refine ae_ ?_; first | rfl | (simp only [cP_, *, Bool.true_and, Bool.false_and]; done) | (simp [cP_, *]; done))
  | simp (disch := omega) only [go_sem, reduceEqDiff, ↓reduceIte]
  | (refine aa_.call (dE_ _ hn _) ?_)
  | (refine aa_.q (dE_ _ hn _) ?_)
  | (refine aa_.call (ce_ _ hs _) ?_)
  | (refine aa_.q (ce_ _ hs _) ?_)
  | ((first | (apply a1_; assumption) | (apply a0_; assumption) | (apply be_; assumption) | (apply bd_; assumption)); intro hb; try simp only [hb])
  | ((first | (apply aM_; assumption) | (apply aN_; assumption) | (apply aX_; assumption) | (apply aY_; assumption)); intro hb; try simp only [hb])
  | ((first | apply aG_ | apply aJ_ | apply ao_ | apply ar_) <;> intro hb <;> (try simp only [hb]) <;> (first | have hp := a8_ hb | have hp := a6_ hb | have hp := a7_ hb | have hp := a5_ hb | skip)))
def BH_ : LC :=
 .q [.o [.f 4], .o [.m 5 0, .c1 6 107 5, .m 7 6, .gm 8 7 true 1, .gc 9 7 true 76 8, .pf 10 7 9, .m 4 10], .ret]
def xe_ : LF := ⟨2, 11, BH_, [.tmp 4]⟩
theorem AA_ : au_ prog Tryz.f105 xe_ := ah_
theorem cy_ (n : ByteArray) (s : List ByteArray) (hn : n.size ≤ 1048576) (hs : s.length ≤ 1048576) (h : List Row) : aa_ prog 105 [.val (.string n), .list 0 1 (s.map am_)] h (.val (.bool (cP_ n s))) := by
 refine aj_ mixed Tryz.func105 AA_ rfl rfl ?_ h
 simp (disch := omega) only [xe_, BH_, go_sem, reduceCtorEq, ↓reduceIte]
 repeat' (first
  | exact af_ _ _
  | (refine ae_ ?_; first | rfl | (simp only [cP_, *, Bool.true_and, Bool.false_and]; done) | (simp [cP_, *]; done))
  | simp (disch := omega) only [go_sem, reduceEqDiff, ↓reduceIte]
  | (refine aa_.call (bS_ _ hn _) ?_)
  | (refine aa_.q (bS_ _ hn _) ?_)
  | (refine aa_.call (bU_ _ hs _) ?_)
  | (refine aa_.q (bU_ _ hs _) ?_)
  | ((first | (apply a1_; assumption) | (apply a0_; assumption) | (apply be_; assumption) | (apply bd_; assumption)); intro hb; try simp only [hb])
  | ((first | (apply aM_; assumption) | (apply aN_; assumption) | (apply aX_; assumption) | (apply aY_; assumption)); intro hb; try simp only [hb])
  | ((first | apply aG_ | apply aJ_ | apply ao_ | apply ar_) <;> intro hb <;> (try simp only [hb]) <;> (first | have hp := a8_ hb | have hp := a6_ hb | have hp := a7_ hb | have hp := a5_ hb | skip)))
def cA_ (x : ac_) : Bool := cP_ x.Name x.Subs && decide ((x.Value.size : Int) ≤ 64)
def c88 : LC :=
 .q [.o [.bx 1 93 0, .f 2], .o [.fa 3 0 1, .ln 4 3, .fa 5 1 1, .ln 6 5, .c2 7 121 4 6, .m 8 7, .gf 9 8 true 2 1, .gn 10 8 true 9, .g 11 8 true (.lenStr (.tmp 10)), .g 12 8 true (.bin .leq false (.tmp 11) (.const (.int
 .i64 64))), .pf 13 8 12, .m 2 13], .ret]
def Bg_ : LF := ⟨1, 14, c88, [.tmp 2]⟩
theorem Ec_ : au_ prog Tryz.f88 Bg_ := ah_
theorem nF_ (x : ac_) (hx : ac_.sz x ≤ 1048576) (h : List Row) : aa_ prog 88 [.agg (ac_.cells x)] h (.val (.bool (cA_ x))) := by
 refine aj_ mixed Tryz.func88 Ec_ rfl rfl ?_ h
 simp (disch := omega) only [Bg_, c88, ac_.cells, go_sem, reduceEqDiff, Nat.reduceAdd, ↓reduceIte]
 repeat' (first
  | exact af_ _ _
  | (refine ae_ ?_; first | rfl | (simp only [cA_, *, Bool.true_and, Bool.false_and]; done) | (simp [cA_, *]; done))
  | simp (disch := omega) only [go_sem, reduceEqDiff, ↓reduceIte]
  | (refine aa_.call (fh_ _ _ (ac_.sz_Name hx) (aA_ (ac_.sz_Subs hx)) _) ?_)
  | (refine aa_.q (fh_ _ _ (ac_.sz_Name hx) (aA_ (ac_.sz_Subs hx)) _) ?_)
  | ((first | (apply a1_; assumption) | (apply a0_; assumption) | (apply be_; assumption) | (apply bd_; assumption)); intro hb; try simp only [hb])
  | ((first | (apply aM_; assumption) | (apply aN_; assumption) | (apply aX_; assumption) | (apply aY_; assumption)); intro hb; try simp only [hb])
  | ((first | apply aG_ | apply aJ_ | apply ao_ | apply ar_) <;> intro hb <;> (try simp only [hb]) <;> (first | have hp := a8_ hb | have hp := a6_ hb | have hp := a7_ hb | have hp := a5_ hb | skip)))
def c68 : LC :=
 .q [.o [.bx 1 93 0, .f 2], .o [.fa 3 0 1, .ln 4 3, .fa 5 1 1, .ln 6 5, .c2 7 105 4 6, .m 8 7, .gf 9 8 true 2 1, .gn 10 8 true 9, .g 11 8 true (.lenStr (.tmp 10)), .g 12 8 true (.bin .leq false (.tmp 11) (.const (.int
 .i64 64))), .pf 13 8 12, .m 2 13], .ret]
def Ba_ : LF := ⟨1, 14, c68, [.tmp 2]⟩
theorem Ea_ : au_ prog Tryz.f68 Ba_ := ah_
theorem mJ_ (x : ac_) (hx : ac_.sz x ≤ 1048576) (h : List Row) : aa_ prog 68 [.agg (ac_.cells x)] h (.val (.bool (cA_ x))) := by
 refine aj_ mixed Tryz.func68 Ea_ rfl rfl ?_ h
 simp (disch := omega) only [Ba_, c68, ac_.cells, go_sem, reduceEqDiff, Nat.reduceAdd, ↓reduceIte]
 repeat' (first
  | exact af_ _ _
  | (refine ae_ ?_; first | rfl | (simp only [cA_, *, Bool.true_and, Bool.false_and]; done) | (simp [cA_, *]; done))
  | simp (disch := omega) only [go_sem, reduceEqDiff, ↓reduceIte]
  | (refine aa_.call (cy_ _ _ (ac_.sz_Name hx) (aA_ (ac_.sz_Subs hx)) _) ?_)
  | (refine aa_.q (cy_ _ _ (ac_.sz_Name hx) (aA_ (ac_.sz_Subs hx)) _) ?_)
  | ((first | (apply a1_; assumption) | (apply a0_; assumption) | (apply be_; assumption) | (apply bd_; assumption)); intro hb; try simp only [hb])
  | ((first | (apply aM_; assumption) | (apply aN_; assumption) | (apply aX_; assumption) | (apply aY_; assumption)); intro hb; try simp only [hb])
  | ((first | apply aG_ | apply aJ_ | apply ao_ | apply ar_) <;> intro hb <;> (try simp only [hb]) <;> (first | have hp := a8_ hb | have hp := a6_ hb | have hp := a7_ hb | have hp := a5_ hb | skip)))
theorem st_ (xs ys : List ByteArray) (k : Nat) (h1 : k < xs.length) (h2 : k < ys.length) : ch_ (bss (xs.drop k)) (bss (ys.drop k)) = if xs[k] = ys[k] then ch_ (bss (xs.drop (k + 1))) (bss (ys.drop (k + 1))) else before xs[k].data.toList ys[k].data.toList := by
 rw [drop_eq_getElem_cons h1, drop_eq_getElem_cons h2]
 simp only [bss, map_cons, ch_, mR_]
theorem oM_ (xs ys : List ByteArray) (k : Nat) (h : xs.length ≤ k ∨ ys.length ≤ k) (h1 : k ≤ xs.length) (h2 : k ≤ ys.length) : ch_ (bss (xs.drop k)) (bss (ys.drop k)) = decide ((xs.length : Int) < ys.length) := by
 rcases Nat.lt_or_ge k xs.length with q | q
 ·have : ys.length ≤ k := by omega
  rw [drop_eq_getElem_cons q, drop_eq_nil_of_le this]
  show false = _; symm; rw [decide_eq_false_iff_not]; omega
 ·rw [drop_eq_nil_of_le q]
  rcases Nat.lt_or_ge k ys.length with q2 | q2
  ·rw [drop_eq_getElem_cons q2]; show true = _; symm; rw [decide_eq_true_eq]; omega
  ·rw [drop_eq_nil_of_le q2]; show false = _; symm; rw [decide_eq_false_iff_not]; omega
def BF_ : LC :=
 .q [.o [.f 4], .q [.o [.ki 5 0], .block 0 (.loop (.q [.q [.o [.m 6 5, .m 7 0, .ll 8 7, .bb 9 .lss false 6 8, .m 10 9, .gm 11 10 true 5, .gm 12 10 true 1, .g 13 10 true (.lenSl (.tmp 12)), .g 14 10 true (.bin .lss false
 (.tmp 11) (.tmp 13)), .pf 15 10 14], .k 15 .skip (.exit 0)], .block 1 (.q [.dops [.m 18 0, .m 19 5, .ia 20 1 18 19, .ln 21 20, .m 22 1, .m 23 5, .ia 24 1 22 23, .ln 25 24, .bb 26 .neq false 21 25], .k 26 (.q [.dops [.m
 27 0, .m 28 5, .ia 29 1 27 28, .ln 30 29, .m 31 1, .m 32 5, .ia 33 1 31 32, .ln 34 33, .c2 35 172 30 34, .m 4 35], .ret]) .skip]), .o [.m 16 5, .bk 17 .add false 16 1, .m 5 17]]))], .o [.m 36 0, .ll 37 36, .m 38 1, .ll
 39 38, .bb 40 .lss false 37 39, .m 4 40], .ret]
def w2_ : LF := ⟨2, 41, BF_, [.tmp 4]⟩
theorem Cp_ : au_ prog Tryz.f144 w2_ := ah_
theorem gm_ (s os : List ByteArray) (hs : an_ ByteArray.size s ≤ 1048576) (hos : an_ ByteArray.size os ≤ 1048576) (h : List Row) :
 aa_ prog 144 [.list 0 1 (s.map am_), .list 0 1 (os.map am_)] h (.val (.bool (ch_ (bss s) (bss os)))) := by
 refine aj_ mixed Tryz.func144 Cp_ rfl rfl ?_ h
 have hl1 := aA_ hs
 have hl2 := aA_ hos
 simp (disch := omega) only [w2_, BF_, go_sem]
 refine aP_ (fun m t h => ∃ k : Nat, t 0 = .list 0 1 (s.map am_) ∧ t 1 = .list 0 1 (os.map am_) ∧ t 5 = .val (.int .i64 k) ∧ m = s.length - k ∧ k ≤ s.length ∧ k ≤ os.length ∧ ch_ (bss s) (bss os) = ch_ (bss (s.drop k)) (bss (os.drop k))) s.length ?_ ?_
 ·exact ⟨0, rfl, rfl, rfl, rfl, Nat.zero_le _, Nat.zero_le _, rfl⟩
 ·rintro J hJ m t h ⟨k, t1, t3, t9, rfl, hk, hk2, hS⟩
  by_cases hlt : k < s.length
  ·by_cases hlt2 : k < os.length
   ·rw [st_ s os k hlt hlt2] at hS
    by_cases e : s[k] = os[k]
    ·have e' : (s[k] = os[k]) = True := eq_true e
     simp (disch := omega) only [t1, t3, t9, hlt, hlt2, e', am_, go_sem, reduceEqDiff, reduceCtorEq, ↓reduceIte]
     exact ⟨s.length - (k + 1), by omega, hJ _ _ _ ⟨k + 1, by simp [upd, t1], by simp [upd, t3], by simp [upd], rfl, by omega, by omega, by rw [hS, if_pos e]⟩⟩
    ·have e' : (s[k] = os[k]) = False := eq_false e
     simp (disch := omega) only [t1, t3, t9, hlt, hlt2, e', am_, go_sem, reduceEqDiff, reduceCtorEq, ↓reduceIte]
     refine aa_.q (fK_ _ _ (e0_ hs (getElem_mem hlt)) (e0_ hos (getElem_mem hlt2)) _) ?_
     try simp (disch := omega) only [t1, t3, t9, go_sem, reduceEqDiff, Nat.reduceAdd, reduceLeDiff, reduceCtorEq, Int.reduceLT, Int.reduceLE, Int.reduceNeg, Int.reduceSub, Int.reduceAdd, Int.reduceToNat, ↓reduceIte]
     exact ae_ (by rw [hS, if_neg e])
   ·simp (disch := omega) only [t1, t3, t9, hlt, hlt2, go_sem, reduceEqDiff, reduceCtorEq, ↓reduceIte]
    exact ae_ (by rw [hS, oM_ s os k (.inr (by omega)) hk hk2, decide_eq_decide]; omega)
  ·simp (disch := omega) only [t1, t3, t9, hlt, go_sem, reduceEqDiff, reduceCtorEq, ↓reduceIte]
   exact ae_ (by rw [hS, oM_ s os k (.inl (by omega)) hk hk2, decide_eq_decide]; omega)
theorem v9_ (a b : List (List UInt8)) : decide (fL_ a b < 0) = ch_ a b := by
 rw [Bool.eq_iff_iff, decide_eq_true_eq, mb_]
def yW_ : LC :=
 .q [.o [.f 4], .o [.m 5 0, .m 6 1, .c2 7 144 5 6, .m 4 7], .ret]
def wv_ : LF := ⟨2, 8, yW_, [.tmp 4]⟩
theorem Cj_ : au_ prog Tryz.f106 wv_ := ah_
theorem hl_ (s os : List ByteArray) (hs : an_ ByteArray.size s ≤ 1048576) (hos : an_ ByteArray.size os ≤ 1048576) (h : List Row) : aa_ prog 106 [.list 0 1 (s.map am_), .list 0 1 (os.map am_)] h (.val (.bool (ch_ (bss s) (bss os)))) := by
 refine aj_ mixed Tryz.func106 Cj_ rfl rfl ?_ h
 simp (disch := omega) only [wv_, yW_, go_sem, reduceEqDiff, reduceCtorEq, ↓reduceIte]
 repeat' (first
  | exact af_ _ _
  | simp (disch := omega) only [go_sem, ↓reduceIte]
  | (refine aa_.call (gm_ _ _ hs hos _) ?_)
  | (refine aa_.q (gm_ _ _ hs hos _) ?_)
  | ((first | (apply aM_; assumption) | (apply aN_; assumption) | (apply aX_; assumption) | (apply aY_; assumption)); intro hb; try simp only [hb])
  | ((first | apply ao_ | apply ar_) <;> intro hb <;> (try simp only [hb]) <;> (first | have hp := a8_ hb | have hp := a6_ hb | have hp := a7_ hb | have hp := a5_ hb | skip)))
def CS_ : LC :=
 .q [.o [.f 4], .o [.m 5 0, .m 6 1, .c2 7 124 5 6, .bk 8 .lss false 7 0, .m 4 8], .ret]
def xm_ : LF := ⟨2, 9, CS_, [.tmp 4]⟩
theorem Bl_ : au_ prog Tryz.f169 xm_ := ah_
theorem kW_ (s os : List ByteArray) (hs : an_ ByteArray.size s ≤ 1048576) (hos : an_ ByteArray.size os ≤ 1048576) (h : List Row) : aa_ prog 169 [.list 0 1 (s.map am_), .list 0 1 (os.map am_)] h (.val (.bool (ch_ (bss s) (bss os)))) := by
 refine aj_ mixed Tryz.func169 Bl_ rfl rfl ?_ h
 simp (disch := omega) only [xm_, CS_, go_sem, reduceEqDiff, reduceCtorEq, ↓reduceIte]
 repeat' (first
  | exact af_ _ _
  | exact ae_ (v9_ _ _)
  | simp (disch := omega) only [go_sem, ↓reduceIte]
  | (refine aa_.call (eS_ _ _ hs hos _) ?_)
  | (refine aa_.q (eS_ _ _ hs hos _) ?_)
  | ((first | (apply a1_; assumption) | (apply a0_; assumption) | (apply be_; assumption) | (apply bd_; assumption)); intro hb; try simp only [hb])
  | ((first | (apply aM_; assumption) | (apply aN_; assumption) | (apply aX_; assumption) | (apply aY_; assumption)); intro hb; try simp only [hb])
  | ((first | apply aG_ | apply aJ_ | apply ao_ | apply ar_) <;> intro hb <;> (try simp only [hb]) <;> (first | have hp := a8_ hb | have hp := a6_ hb | have hp := a7_ hb | have hp := a5_ hb | skip)))
def c69 : LC :=
 .q [.o [.f 8], .o [.m 9 0, .m 10 2, .bb 11 .lss false 9 10, .m 12 11, .gm 13 12 false 0, .gm 14 12 false 2, .g 15 12 false (.bin .eql false (.tmp 13) (.tmp 14)), .gm 16 12 false 15, .gm 17 16 true 1, .gm 18 16 true 3, .g
 19 16 true (.call 106 [.tmp 17, .tmp 18]), .g 20 12 false (.pick (.tmp 16) (.tmp 19) (.const (.bool false))), .pt 21 12 20, .m 8 21], .ret]
def Ay_ : LF := ⟨4, 22, c69, [.tmp 8]⟩
theorem Ei_ : au_ prog Tryz.f69 Ay_ := ah_
theorem i7_ (n : ByteArray) (s : List ByteArray) (o : ByteArray) (os : List ByteArray) (hs : an_ ByteArray.size s ≤ 1048576) (hos : an_ ByteArray.size os ≤ 1048576) (h : List Row) :
 aa_ prog 69 [.val (.string n), .list 0 1 (s.map am_), .val (.string o), .list 0 1 (os.map am_)] h (.val (.bool (ea_ n.data.toList (bss s) o.data.toList (bss os)))) := by
 refine aj_ mixed Tryz.func69 Ei_ rfl rfl ?_ h
 simp (disch := omega) only [Ay_, c69, oa_, go_sem, reduceEqDiff, reduceCtorEq, ↓reduceIte]
 by_cases hn : n = o
 ·subst hn
  have hL : ea_ n.data.toList (bss s) n.data.toList (bss os) = ch_ (bss s) (bss os) := by unfold ea_; rw [if_pos rfl]
  rw [hL]
  simp (disch := omega) only [e1_, go_sem, reduceEqDiff, reduceCtorEq, ↓reduceIte]
  refine aa_.call (hl_ _ _ hs hos _) ?_
  simp (disch := omega) only [go_sem, reduceEqDiff, ↓reduceIte]
  exact af_ _ _
 ·have hn' : (n = o) = False := eq_false hn
  have hL : ea_ n.data.toList (bss s) o.data.toList (bss os) = Op.bytesLess n.data.toList o.data.toList := by unfold ea_; rw [if_neg (fun q => hn (by rwa [mR_] at q))]
  rw [hL]
  cases hb : Op.bytesLess n.data.toList o.data.toList <;> simp (disch := omega) only [hn', go_sem, reduceEqDiff, reduceCtorEq, ↓reduceIte] <;> exact af_ _ _
def b9_ (a b : ac_) : Bool := ea_ a.Name.data.toList (bss a.Subs) b.Name.data.toList (bss b.Subs)
def dK_ : Option ac_ → List ac_ → Bool
 | _, [] => true
 | p, x :: r => cA_ x && (match p with | some q => b9_ q x | none => true) && dK_ (some x) r
def et_ (ns : List ac_) (k : Nat) : Option ac_ := if 0 < k then ns[k - 1]? else none
theorem mo_ {ns : List ac_} {k : Nat} (h0 : 0 < k) (h : k - 1 < ns.length) : et_ ns k = some ns[k - 1] := by unfold et_; rw [if_pos h0, getElem?_eq_getElem h]
theorem om_ (ns : List ac_) {k : Nat} (hlt : k < ns.length) : dK_ (et_ ns k) (ns.drop k) = (cA_ ns[k] && (match et_ ns k with | some q => b9_ q ns[k] | none => true) && dK_ (et_ ns (k + 1)) (ns.drop (k + 1))) := by
 rw [drop_eq_getElem_cons hlt, mo_ (Nat.succ_pos k) (by simpa using hlt)]; rfl
def aW_ (x : ad_) : Bool := decide ((x.Nodes.length : Int) ≤ 120) && dK_ none x.Nodes
theorem qo_ (n : List UInt8) (s : List (List UInt8)) (o : List UInt8) (os : List (List UInt8)) : decide (0 ≤ g6_ n s o os) = !ea_ n s o os := by
 have h := pH_ n s o os
 cases hb : ea_ n s o os with
 | true => rw [hb] at h; have := h.2 rfl; simp; omega
 | false =>
  have : ¬ g6_ n s o os < 0 := fun q => by have := h.1 q; rw [hb] at this; cases this
  simp; omega
def c43 : LC :=
 .q [.o [.bx 1 41 0, .f 2], .q [.o [.fa 5 0 1, .ln 6 5, .ll 7 6, .bk 8 .gtr false 7 120], .k 8 (.q [.o [.f 2], .ret]) .skip], .q [.o [.fa 9 0 1, .ln 10 9, .ll 11 10, .ki 12 0], .block 0 (.loop (.q [.o [.bb 13 .lss false
 12 11], .k 13 .skip (.exit 0), .block 1 (.q [.o [.m 14 12, .ia 15 3 10 12, .ld 16 3 15, .s 4 (.alloc 93 (.agg #[.string ⟨#[]⟩, .slice none 0 0, .string ⟨#[]⟩])), .m 3 14, .st 3 4 16], .dops [.ld 17 3 4, .c1 18 88 17, .nt
 19 18, .m 20 19, .gm 21 20 false 3, .g 22 20 false (.bin .gtr false (.tmp 21) (.const (.int .i64 0))), .gm 23 20 false 22, .gf 24 23 true 0 1, .gn 25 23 true 24, .gm 26 23 true 3, .g 27 23 true (.bin .sub false (.tmp 26)
 (.const (.int .i64 1))), .g 28 23 true (.indexAddr 3 (.tmp 25) (.tmp 27)), .gf 29 23 true 0 28, .gn 30 23 true 29, .gf 31 23 true 0 1, .gn 32 23 true 31, .gm 33 23 true 3, .g 34 23 true (.bin .sub false (.tmp 33) (.const
 (.int .i64 1))), .g 35 23 true (.indexAddr 3 (.tmp 32) (.tmp 34)), .gf 36 23 true 1 35, .gn 37 23 true 36, .gf 38 23 true 0 4, .gn 39 23 true 38, .gf 40 23 true 1 4, .gn 41 23 true 40, .g 42 23 true (.call 89 [.tmp 30,
 .tmp 37, .tmp 39, .tmp 41]), .g 43 23 true (.bin .geq false (.tmp 42) (.const (.int .i64 0))), .g 44 20 false (.pick (.tmp 23) (.tmp 43) (.const (.bool false))), .pt 45 20 44], .k 45 (.q [.o [.f 2], .ret]) .skip]), .o
 [.bk 46 .add false 12 1, .m 12 46]]))], .o [.t 2], .ret]
def wr_ : LF := ⟨1, 47, c43, [.tmp 2]⟩
theorem DS_ : au_ prog Tryz.f43 wr_ := ah_
def c29 : LC :=
 .q [.o [.bx 1 41 0, .f 2], .q [.o [.fa 5 0 1, .ln 6 5, .ll 7 6, .bk 8 .gtr false 7 120], .k 8 (.q [.o [.f 2], .ret]) .skip], .q [.o [.ki 3 0], .block 0 (.loop (.q [.q [.o [.m 9 3, .fa 10 0 1, .ln 11 10, .ll 12 11, .bb 13
 .lss false 9 12], .k 13 .skip (.exit 0)], .block 1 (.q [.o [.fa 16 0 1, .ln 17 16, .m 18 3, .ia 19 3 17 18, .ld 20 3 19, .s 4 (.alloc 93 (.agg #[.string ⟨#[]⟩, .slice none 0 0, .string ⟨#[]⟩])), .st 3 4 20], .dops [.ld
 21 3 4, .c1 22 68 21, .nt 23 22, .m 24 23, .gm 25 24 false 3, .g 26 24 false (.bin .gtr false (.tmp 25) (.const (.int .i64 0))), .gm 27 24 false 26, .gf 28 27 true 0 1, .gn 29 27 true 28, .gm 30 27 true 3, .g 31 27 true
 (.bin .sub false (.tmp 30) (.const (.int .i64 1))), .g 32 27 true (.indexAddr 3 (.tmp 29) (.tmp 31)), .gf 33 27 true 0 32, .gn 34 27 true 33, .gf 35 27 true 0 1, .gn 36 27 true 35, .gm 37 27 true 3, .g 38 27 true (.bin
 .sub false (.tmp 37) (.const (.int .i64 1))), .g 39 27 true (.indexAddr 3 (.tmp 36) (.tmp 38)), .gf 40 27 true 1 39, .gn 41 27 true 40, .gf 42 27 true 0 4, .gn 43 27 true 42, .gf 44 27 true 1 4, .gn 45 27 true 44, .g 46
 27 true (.call 69 [.tmp 34, .tmp 41, .tmp 43, .tmp 45]), .gu 47 27 true 46, .g 48 24 false (.pick (.tmp 27) (.tmp 47) (.const (.bool false))), .pt 49 24 48], .k 49 (.q [.o [.f 2], .ret]) .skip]), .o [.m 14 3, .bk 15 .add
 false 14 1, .m 3 15]]))], .o [.t 2], .ret]
def v5_ : LF := ⟨1, 50, c29, [.tmp 2]⟩
theorem Ep_ : au_ prog Tryz.f29 v5_ := ah_
theorem gT_ (x : ad_) (hx : ad_.sz x ≤ 1048576) (h : List Row) : aa_ prog 43 [.agg (ad_.cells x)] h (.val (.bool (aW_ x))) := by
 refine aj_ mixed Tryz.func43 DS_ rfl rfl ?_ h
 have hs := ad_.sz_Nodes hx
 have hl := aA_ hs
 have hm : ∀ n ∈ x.Nodes, ac_.sz n ≤ 1048576 := fun n hn => cq_ hs hn
 by_cases h4 : (x.Nodes.length : Int) ≤ 120
 case neg =>
  have h4' : ((120 : Int) < x.Nodes.length) = True := eq_true (by omega)
  simp (disch := omega) only [wr_, c43, ad_.cells, h4', go_sem, reduceEqDiff, ↓reduceIte]
  exact ae_ (by simp [aW_, h4])
 have h4' : ((120 : Int) < x.Nodes.length) = False := eq_false (by omega)
 have hT : aW_ x = dK_ none x.Nodes := by unfold aW_; rw [decide_eq_true h4]; rfl
 rw [hT]
 simp (disch := omega) only [wr_, c43, ad_.cells, h4', go_sem, reduceEqDiff, ↓reduceIte]
 refine aP_ (fun n t h => ∃ k : Nat, t 1 = .ptr 0 1 0 0 ∧ t 10 = .list 0 3 (x.Nodes.map ac_.cells) ∧ t 11 = .val (.int .i64 x.Nodes.length) ∧ t 12 = .val (.int .i64 k) ∧ h[0]? = some ⟨41, 1, [[.list 0 3 (x.Nodes.map ac_.cells)]]⟩ ∧ n = x.Nodes.length - k ∧ k ≤ x.Nodes.length ∧ dK_ none x.Nodes = dK_ (et_ x.Nodes k) (x.Nodes.drop k)) x.Nodes.length ⟨0, rfl, rfl, rfl, rfl, rfl, rfl, Nat.zero_le _, rfl⟩ ?_
 rintro J hJ n t h ⟨k, t1, t10, t11, t12, o0, rfl, hk, hS⟩
 have w0 := fun l => as_ (l := l) o0
 by_cases hlt : k < x.Nodes.length
 ·rw [om_ _ hlt] at hS
  have hb := hm _ (getElem_mem hlt)
  have hb1 := ac_.sz_Name hb
  have hb2 := ac_.sz_Subs hb
  simp (disch := omega) only [t10, t11, t12, hlt, ac_.cells, go_sem, reduceEqDiff, Nat.reduceAdd, ↓reduceIte]
  refine aa_.q (nF_ x.Nodes[k] hb _) ?_
  by_cases q1 : cA_ x.Nodes[k] = true
  case neg =>
   have q1' : cA_ x.Nodes[k] = false := by simpa using q1
   simp (disch := omega) only [q1', go_sem, reduceEqDiff, ↓reduceIte]
   exact ae_ (by rw [hS, q1']; rfl)
  by_cases hk0 : 0 < k
  ·have hlt1 : k - 1 < x.Nodes.length := by omega
   have hk0' : (0 < (k : Int)) = True := eq_true (by omega)
   have hkp : (k : Int) - 1 = ((k - 1 : Nat) : Int) := by omega
   have hb3 := hm _ (getElem_mem hlt1)
   rw [mo_ hk0 hlt1] at hS
   dsimp only at hS
   simp (disch := omega) only [t1, w0, q1, hk0', hkp, ac_.cells, aq_, go_sem, reduceEqDiff, Nat.reduceAdd, reduceLeDiff, ↓reduceIte]
   refine aa_.q (dM_ _ _ _ _ (ac_.sz_Subs hb3) hb2 _) ?_
   by_cases q2 : b9_ x.Nodes[k - 1] x.Nodes[k] = true
   ·have q2n := q2
    unfold b9_ at q2n
    have q2n : (0 ≤ g6_ (x.Nodes[k - 1]).Name.data.toList (bss (x.Nodes[k - 1]).Subs) (x.Nodes[k]).Name.data.toList (bss (x.Nodes[k]).Subs)) = False := eq_false (by have := qo_ (x.Nodes[k - 1]).Name.data.toList (bss (x.Nodes[k - 1]).Subs) (x.Nodes[k]).Name.data.toList (bss (x.Nodes[k]).Subs); rw [q2n] at this; simpa using this)
    simp (disch := omega) only [t12, q2n, go_sem, reduceEqDiff, ↓reduceIte]
    exact ⟨x.Nodes.length - (k + 1), by omega, hJ _ _ _ ⟨k + 1, by simp [upd, t1], by simp [upd, t10], by simp [upd, t11], by simp [upd], w0 _, rfl, by omega, by rw [hS, q1, q2]; rfl⟩⟩
   ·have q2' : b9_ x.Nodes[k - 1] x.Nodes[k] = false := by simpa using q2
    have q2n := q2'
    unfold b9_ at q2n
    have q2n : (0 ≤ g6_ (x.Nodes[k - 1]).Name.data.toList (bss (x.Nodes[k - 1]).Subs) (x.Nodes[k]).Name.data.toList (bss (x.Nodes[k]).Subs)) = True := eq_true (by have := qo_ (x.Nodes[k - 1]).Name.data.toList (bss (x.Nodes[k - 1]).Subs) (x.Nodes[k]).Name.data.toList (bss (x.Nodes[k]).Subs); rw [q2n] at this; simpa using this)
    simp (disch := omega) only [q2n, go_sem, ↓reduceIte]
    exact ae_ (by rw [hS, q1, q2']; rfl)
  ·have hk0' : (0 < (k : Int)) = False := eq_false (by omega)
   have hp : et_ x.Nodes k = none := by unfold et_; rw [if_neg hk0]
   rw [hp] at hS
   simp (disch := omega) only [t12, q1, hk0', go_sem, reduceEqDiff, ↓reduceIte]
   exact ⟨x.Nodes.length - (k + 1), by omega, hJ _ _ _ ⟨k + 1, by simp [upd, t1], by simp [upd, t10], by simp [upd, t11], by simp [upd], w0 _, rfl, by omega, by rw [hS, q1]; rfl⟩⟩
 ·simp (disch := omega) only [t11, t12, hlt, go_sem, ↓reduceIte]
  exact ae_ (by rw [hS, drop_eq_nil_of_le (by omega)]; cases et_ x.Nodes k <;> rfl)
theorem cM_ (x : ad_) (hx : ad_.sz x ≤ 1048576) (h : List Row) : aa_ prog 29 [.agg (ad_.cells x)] h (.val (.bool (aW_ x))) := by
 refine aj_ mixed Tryz.func29 Ep_ rfl rfl ?_ h
 have hs := ad_.sz_Nodes hx
 have hl := aA_ hs
 have hm : ∀ n ∈ x.Nodes, ac_.sz n ≤ 1048576 := fun n hn => cq_ hs hn
 by_cases h4 : (x.Nodes.length : Int) ≤ 120
 case neg =>
  have h4' : ((120 : Int) < x.Nodes.length) = True := eq_true (by omega)
  simp (disch := omega) only [v5_, c29, ad_.cells, h4', go_sem, reduceEqDiff, ↓reduceIte]
  exact ae_ (by simp [aW_, h4])
 have h4' : ((120 : Int) < x.Nodes.length) = False := eq_false (by omega)
 have hT : aW_ x = dK_ none x.Nodes := by unfold aW_; rw [decide_eq_true h4]; rfl
 rw [hT]
 simp (disch := omega) only [v5_, c29, ad_.cells, h4', go_sem, reduceEqDiff, ↓reduceIte]
 refine aP_ (fun n t h => ∃ k : Nat, t 1 = .ptr 0 1 0 0 ∧ t 3 = .val (.int .i64 k) ∧ h[0]? = some ⟨41, 1, [[.list 0 3 (x.Nodes.map ac_.cells)]]⟩ ∧ n = x.Nodes.length - k ∧ k ≤ x.Nodes.length ∧ dK_ none x.Nodes = dK_ (et_ x.Nodes k) (x.Nodes.drop k)) x.Nodes.length ⟨0, rfl, rfl, rfl, rfl, Nat.zero_le _, rfl⟩ ?_
 rintro J hJ n t h ⟨k, t1, t3, o0, rfl, hk, hS⟩
 have w0 := fun l => as_ (l := l) o0
 by_cases hlt : k < x.Nodes.length
 ·rw [om_ _ hlt] at hS
  have hb := hm _ (getElem_mem hlt)
  have hb1 := ac_.sz_Name hb
  have hb2 := ac_.sz_Subs hb
  simp (disch := omega) only [t1, t3, o0, hlt, ac_.cells, go_sem, reduceEqDiff, Nat.reduceAdd, ↓reduceIte]
  refine aa_.q (mJ_ x.Nodes[k] hb _) ?_
  by_cases q1 : cA_ x.Nodes[k] = true
  case neg =>
   have q1' : cA_ x.Nodes[k] = false := by simpa using q1
   simp (disch := omega) only [q1', go_sem, reduceEqDiff, ↓reduceIte]
   exact ae_ (by rw [hS, q1']; rfl)
  by_cases hk0 : 0 < k
  ·have hlt1 : k - 1 < x.Nodes.length := by omega
   have hk0' : (0 < (k : Int)) = True := eq_true (by omega)
   have hkp : (k : Int) - 1 = ((k - 1 : Nat) : Int) := by omega
   have hb3 := hm _ (getElem_mem hlt1)
   rw [mo_ hk0 hlt1] at hS
   dsimp only at hS
   simp (disch := omega) only [t1, t3, w0, q1, hk0', hkp, ac_.cells, aq_, go_sem, reduceEqDiff, Nat.reduceAdd, reduceLeDiff, ↓reduceIte]
   refine aa_.q (i7_ _ _ _ _ (ac_.sz_Subs hb3) hb2 _) ?_
   by_cases q2 : b9_ x.Nodes[k - 1] x.Nodes[k] = true
   ·have q2n := q2
    unfold b9_ at q2n
    skip
    simp (disch := omega) only [t3, q2n, go_sem, reduceEqDiff, ↓reduceIte]
    exact ⟨x.Nodes.length - (k + 1), by omega, hJ _ _ _ ⟨k + 1, by simp [upd, t1], by simp [upd], w0 _, rfl, by omega, by rw [hS, q1, q2]; rfl⟩⟩
   ·have q2' : b9_ x.Nodes[k - 1] x.Nodes[k] = false := by simpa using q2
    have q2n := q2'
    unfold b9_ at q2n
    skip
    simp (disch := omega) only [q2n, go_sem, ↓reduceIte]
    exact ae_ (by rw [hS, q1, q2']; rfl)
  ·have hk0' : (0 < (k : Int)) = False := eq_false (by omega)
   have hp : et_ x.Nodes k = none := by unfold et_; rw [if_neg hk0]
   rw [hp] at hS
   simp (disch := omega) only [t3, q1, hk0', go_sem, reduceEqDiff, ↓reduceIte]
   exact ⟨x.Nodes.length - (k + 1), by omega, hJ _ _ _ ⟨k + 1, by simp [upd, t1], by simp [upd], w0 _, rfl, by omega, by rw [hS, q1]; rfl⟩⟩
 ·simp (disch := omega) only [t1, t3, o0, hlt, go_sem, reduceEqDiff, ↓reduceIte]
  exact ae_ (by rw [hS, drop_eq_nil_of_le (by omega)]; cases et_ x.Nodes k <;> rfl)
theorem wa_ (q : Bool) (n : Nat) : bl_ .shr q (.val (.int .u64 (n : Int))) (.val (.int .u64 1)) = some (.val (.int .u64 ((n / 2 : Nat) : Int))) := by
 have e : bl_ .shr q (.val (.int .u64 (n : Int))) (.val (.int .u64 1)) = some (.val (.int .u64 ((n : Int).fdiv (2 ^ 1)))) := rfl
 rw [e]
 congr 3
 rw [Int.fdiv_eq_ediv_of_nonneg _ (by decide)]
 omega
theorem q9_ {n : Int} (h1 : 0 ≤ n) (h2 : n ≤ 18446744073709551615) : IntKind.u64.wrap n = n := by
 rw [IntKind.wrap_u64]; omega
def zu_ : LC :=
 .q [.o [.bx 4 93 1, .ki 6 0, .f 7], .o [.m 12 0, .ll 13 12, .m 8 13], .o [.m 14 8, .ki 9 0, .m 10 14], .block 0 (.loop (.q [.q [.o [.m 15 9, .m 16 10, .bb 17 .lss false 15 16], .k 17 .skip (.exit 0)], .block 1 (.q [.o
 [.m 18 9, .m 19 10, .bb 20 .add false 18 19, .s 21 (.convInt .u64 (.tmp 20)), .s 22 (.bin .shr false (.tmp 21) (.const (.int .u64 1))), .s 23 (.convInt .i64 (.tmp 22)), .m 11 23], .dops [.m 24 2, .m 25 0, .m 26 11, .ia
 27 3 25 26, .ld 28 3 27, .ld 29 3 4, .s 30 (.callv (.tmp 24) [.tmp 28, .tmp 29]), .bk 31 .lss false 30 0], .k 31 (.o [.m 32 11, .bk 33 .add false 32 1, .m 9 33]) (.o [.m 34 11, .m 10 34])])])), .dops [.m 35 9, .m 36 9,
 .m 37 8, .bb 38 .lss false 36 37, .m 39 38, .gm 40 39 true 2, .gm 41 39 true 0, .gm 42 39 true 9, .g 43 39 true (.indexAddr 3 (.tmp 41) (.tmp 42)), .gl 44 39 true 3 43, .gl 45 39 true 3 4, .g 46 39 true (.callv (.tmp 40)
 [.tmp 44, .tmp 45]), .g 47 39 true (.bin .eql false (.tmp 46) (.const (.int .i64 0))), .pf 48 39 47, .m 6 35, .m 7 48], .ret]
def xG_ : LF := ⟨3, 49, zu_, [.tmp 6, .tmp 7]⟩
theorem yT_ : au_ prog Tryz.f184 xG_ := ah_
theorem e9_ (hs : List ac_) (tg : ac_) (c : ac_ → ac_ → Int) (g m : Nat) (hx : hs.length ≤ 1048576) (hm : m ≤ hs.length) (hpart : ∀ (i : Nat) (h : i < hs.length), (c hs[i] tg < 0 ↔ i < m)) (hc : cC_ prog g = true)
 (hp : ∀ x ∈ hs, ∀ h, aa_ prog g [.agg (ac_.cells x), .agg (ac_.cells tg)] h (.val (.int .i64 (c x tg)))) (fd : Bool) (hfd : fd = if h : m < hs.length then decide (c hs[m] tg = 0) else false) (h : List Row) :
 aa_ prog 184 [.list 0 3 (hs.map ac_.cells), .agg (ac_.cells tg), .fn g [] []] h (.tup [.val (.int .i64 m), .val (.bool fd)]) := by
 refine aj_ mixed Tryz.func184 yT_ rfl rfl ?_ h
 simp only [ac_.cells] at hp
 simp (disch := omega) only [xG_, zu_, ac_.cells, go_sem, reduceEqDiff, Nat.reduceAdd, reduceCtorEq, ↓reduceIte]
 refine aP_ (fun n t h => ∃ (i j : Nat), t 0 = .list 0 3 (hs.map ac_.cells) ∧ t 2 = .fn g [] [] ∧ t 4 = .ptr 0 1 0 0 ∧ h[0]? = some ⟨93, 3, [[.val (.string tg.Name), .list 0 1 (tg.Subs.map am_), .val (.string tg.Value)]]⟩ ∧ t 8 = .val (.int .i64 hs.length) ∧ t 9 = .val (.int .i64 i) ∧ t 10 = .val (.int .i64 j) ∧ n = j - i ∧ i ≤ m ∧ m ≤ j ∧ j ≤ hs.length) hs.length ⟨0, hs.length, rfl, rfl, rfl, rfl, rfl, rfl, rfl, rfl, Nat.zero_le _, hm, Nat.le_refl _⟩ ?_
 rintro J hJ n t h ⟨i, j, t0, t2, t4, o0, t8, t9, t10, rfl, him, hmj, hj⟩
 by_cases hij : i < j
 ·have e1 : ((i : Int) + (j : Int)) = ((i + j : Nat) : Int) := by omega
  have hmid : (i + j) / 2 < hs.length := by omega
  have hq := hpart ((i + j) / 2) hmid
  simp (disch := omega) only [t0, t2, t4, o0, t9, t10, hij, e1, q9_, wa_, hc, ac_.cells, go_sem, reduceEqDiff, Nat.reduceAdd, reduceCtorEq, ↓reduceIte]
  first | refine aa_.q (hp hs[(i + j) / 2] (getElem_mem hmid) _) ?_ | refine aa_.call (hp hs[(i + j) / 2] (getElem_mem hmid) _) ?_
  by_cases hl : c hs[(i + j) / 2] tg < 0
  ·simp (disch := omega) only [hl, go_sem, reduceEqDiff, ↓reduceIte]
   exact ⟨j - ((i + j) / 2 + 1), by omega, hJ _ _ _ ⟨(i + j) / 2 + 1, j, by simp [upd, t0], by simp [upd, t2], by simp [upd, t4], o0, by simp [upd, t8], by simp [upd], by simp [upd, t10], rfl, by have := hq.1 hl; omega, hmj, hj⟩⟩
  ·have hnm : ¬ ((i + j) / 2 < m) := fun q => hl (hq.2 q)
   simp (disch := omega) only [hl, go_sem, reduceEqDiff, ↓reduceIte]
   exact ⟨(i + j) / 2 - i, by omega, hJ _ _ _ ⟨i, (i + j) / 2, by simp [upd, t0], by simp [upd, t2], by simp [upd, t4], o0, by simp [upd, t8], by simp [upd, t9], by simp [upd], rfl, him, by omega, by omega⟩⟩
 ·have him' : i = m := by omega
  by_cases hml : m < hs.length
  ·have hil : i < hs.length := by omega
   subst him'
   rw [dif_pos hml] at hfd
   simp (disch := omega) only [t0, t2, t4, o0, t8, t9, t10, hij, hil, hc, ac_.cells, go_sem, reduceEqDiff, Nat.reduceAdd, reduceCtorEq, ↓reduceIte]
   first | refine aa_.q (hp hs[i] (getElem_mem hil) _) ?_ | refine aa_.call (hp hs[i] (getElem_mem hil) _) ?_
   simp (disch := omega) only [go_sem]
   rw [hfd]
   exact dg_ _ _ rfl
  ·have hil : ¬ i < hs.length := by omega
   subst him'
   rw [dif_neg hml] at hfd
   simp (disch := omega) only [t8, t9, t10, hij, hil, go_sem, reduceEqDiff, ↓reduceIte]
   rw [hfd]
   exact dg_ _ _ rfl
theorem gD_ {a b c : ac_} (h1 : b9_ a b = true) (h2 : b9_ b c = true) : b9_ a c = true := q8_ h1 h2
theorem f5_ : ∀ (r : List ac_) (p : Option ac_), dK_ p r = true → r.Pairwise (fun a b => b9_ a b = true) ∧ (∀ q, p = some q → ∀ x ∈ r, b9_ q x = true) ∧ ∀ x ∈ r, cA_ x = true
 | [], p, _ => ⟨List.Pairwise.nil, fun _ _ x hx => by simp at hx, fun x hx => by simp at hx⟩
 | a :: r, p, h => by
  simp only [dK_, Bool.and_eq_true] at h
  obtain ⟨h1, h2, h3⟩ := f5_ r (some a) h.2
  refine ⟨pairwise_cons.2 ⟨h2 a rfl, h1⟩, ?_, ?_⟩
  ·rintro q rfl x hx
   rcases mem_cons.1 hx with e | e
   ·subst e; exact h.1.2
   ·exact gD_ h.1.2 (h2 a rfl x e)
  ·intro x hx
   rcases mem_cons.1 hx with e | e
   ·subst e; exact h.1.1
   ·exact h3 x e
theorem fR_ {x : ad_} (h : aW_ x = true) : x.Nodes.Pairwise (fun a b => b9_ a b = true) := by
 simp only [aW_, Bool.and_eq_true] at h
 exact (f5_ _ _ h.2).1
theorem mL_ {x : ad_} (h : aW_ x = true) : ∀ n ∈ x.Nodes, cA_ n = true := by
 simp only [aW_, Bool.and_eq_true] at h
 exact (f5_ _ _ h.2).2.2
def fy_ (n : ByteArray) (s : List ByteArray) (a : ac_) : Bool := b9_ a ⟨n, s, txt []⟩
def bw_ (ns : List ac_) (n : ByteArray) (s : List ByteArray) : Nat := (ns.takeWhile (fy_ n s)).length
theorem lE_ (ns : List ac_) (n : ByteArray) (s : List ByteArray) : bw_ ns n s ≤ ns.length := by
 unfold bw_
 exact List.Sublist.length_le (takeWhile_sublist _)
theorem jC_ {α : Type} (p : α → Bool) : ∀ (l : List α) (hmono : ∀ (i j : Nat) (hi : i < l.length) (hj : j < l.length), i ≤ j → p l[j] = true → p l[i] = true) (i : Nat) (h : i < l.length), p l[i] = true ↔ i < (l.takeWhile p).length
 | [], _, i, h => by simp at h
 | a :: l, hm, i, h => by
  by_cases q : p a = true
  ·rw [takeWhile_cons_of_pos q]
   cases i with
   | zero => simp [q]
   | succ i =>
    simp only [getElem_cons_succ, lc_, Nat.add_lt_add_iff_right]
    exact jC_ p l (fun a b ha hb hab hp => hm (a + 1) (b + 1) (by simpa using ha) (by simpa using hb) (by omega) hp) i (by simpa using h)
  ·rw [takeWhile_cons_of_neg q]
   simp only [ln_, Nat.not_lt_zero, iff_false]
   intro hp
   exact q (hm 0 i (by simp) h (Nat.zero_le _) hp)
theorem lo_ {x : ad_} (h : aW_ x = true) (n : ByteArray) (s : List ByteArray) (i : Nat) (hi : i < x.Nodes.length) : fy_ n s x.Nodes[i] = true ↔ i < bw_ x.Nodes n s := by
 refine jC_ (fy_ n s) x.Nodes (fun a b ha hb hab hp => ?_) i hi
 rcases Nat.lt_or_eq_of_le hab with q | q
 ·exact gD_ (pairwise_iff_getElem.1 (fR_ h) a b ha hb q) hp
 ·subst q; exact hp
def fA_ (n : ByteArray) (s : List ByteArray) (a : ac_) : Bool := decide (a.Name = n) && br_ a.Subs s
def bI_ (ns : List ac_) (n : ByteArray) (s : List ByteArray) : Bool := match ns[bw_ ns n s]? with | some a => fA_ n s a | none => false
theorem jU_ : ∀ xs ys : List ByteArray, br_ xs ys = true ↔ xs = ys
 | [], [] => by simp [br_, e2_]
 | [], _ :: _ => by simp [br_, e2_]
 | _ :: _, [] => by simp [br_, e2_]
 | x :: xs, y :: ys => by
  have := jU_ xs ys
  simp only [br_, e2_, Bool.and_eq_true, eqS, decide_eq_true_eq, List.cons.injEq] at this ⊢
  rw [this]
theorem pI_ (n : ByteArray) (s : List ByteArray) (a : ac_) : decide (g6_ a.Name.data.toList (bss a.Subs) n.data.toList (bss s) = 0) = fA_ n s a := by
 rw [Bool.eq_iff_iff, decide_eq_true_eq, tH_, mR_, rR_]
 simp [fA_, jU_]
theorem tE_ (n : ByteArray) (s : List ByteArray) (a : ac_) : g6_ a.Name.data.toList (bss a.Subs) n.data.toList (bss s) < 0 ↔ fy_ n s a = true := pH_ _ _ _ _
def Bn_ : LC :=
 .q [.o [.bx 2 93 0, .bx 3 93 1, .ki 4 0], .o [.fa 5 0 2, .ln 6 5, .fa 7 1 2, .ln 8 7, .fa 9 0 3, .ln 10 9, .fa 11 1 3, .ln 12 11, .s 13 (.call 89 [.tmp 6, .tmp 8, .tmp 10, .tmp 12]), .m 4 13], .ret]
def wD_ : LF := ⟨2, 14, Bn_, [.tmp 4]⟩
theorem BA_ : au_ prog Tryz.f185 wD_ := ah_
theorem jF_ (x y : ac_) (hx : an_ ByteArray.size x.Subs ≤ 1048576) (hy : an_ ByteArray.size y.Subs ≤ 1048576) (h : List Row) : aa_ prog 185 [.agg (ac_.cells x), .agg (ac_.cells y)] h (.val (.int .i64 (g6_ x.Name.data.toList (bss x.Subs) y.Name.data.toList (bss y.Subs)))) := by
 refine aj_ mixed Tryz.func185 BA_ rfl rfl ?_ h
 simp (disch := omega) only [wD_, Bn_, ac_.cells, go_sem, reduceEqDiff, Nat.reduceAdd, ↓reduceIte]
 repeat' (first
  | exact af_ _ _
  | simp (disch := omega) only [go_sem, ↓reduceIte]
  | (refine aa_.call (dM_ _ _ _ _ hx hy _) ?_)
  | (refine aa_.q (dM_ _ _ _ _ hx hy _) ?_)
  | ((first | (apply aM_; assumption) | (apply aN_; assumption) | (apply aX_; assumption) | (apply aY_; assumption)); intro hb; try simp only [hb])
  | ((first | apply ao_ | apply ar_) <;> intro hb <;> (try simp only [hb]) <;> (first | have hp := a8_ hb | have hp := a6_ hb | have hp := a7_ hb | have hp := a5_ hb | skip)))
def Bp_ : LC :=
 .q [.o [.bx 3 41 0, .ki 6 0, .f 7], .o [.fa 8 0 3, .ln 9 8, .m 10 1, .m 11 2, .s 12 (.build (.agg #[.string ⟨#[]⟩, .slice none 0 0, .string ⟨#[]⟩]) [(0, 1), (1, 1), (2, 1)] [(0, .tmp 10), (1, .tmp 11)]), .s 13 (.call 184
 [.tmp 9, .tmp 12, .func 185]), .ex 14 13 0, .ex 15 13 1, .m 6 14, .m 7 15], .ret]
def xz_ : LF := ⟨3, 16, Bp_, [.tmp 6, .tmp 7]⟩
theorem Ci_ : au_ prog Tryz.f163 xz_ := ah_
theorem hp_ (x : ad_) (n : ByteArray) (s : List ByteArray) (hx : ad_.sz x ≤ 1048576) (hs : an_ ByteArray.size s ≤ 1048576) (ht : aW_ x = true) (h : List Row) : aa_ prog 163 [.agg (ad_.cells x), .val (.string n), .list 0 1 (s.map am_)] h (.tup [.val (.int .i64 (bw_ x.Nodes n s)), .val (.bool (bI_ x.Nodes n s))]) := by
 refine aj_ mixed Tryz.func163 Ci_ rfl rfl ?_ h
 have hz := ad_.sz_Nodes hx
 have hm : ∀ a ∈ x.Nodes, ac_.sz a ≤ 1048576 := fun a ha => cq_ hz ha
 have hb : ∀ H, aa_ prog 184 [.list 0 3 (x.Nodes.map ac_.cells), .agg [.val (.string n), .list 0 1 (s.map am_), .val (.string (txt []))], .fn 185 [] []] H (.tup [.val (.int .i64 (bw_ x.Nodes n s)), .val (.bool (bI_ x.Nodes n s))]) := fun H =>
  e9_ x.Nodes ⟨n, s, txt []⟩ (fun a b => g6_ a.Name.data.toList (bss a.Subs) b.Name.data.toList (bss b.Subs)) 185 (bw_ x.Nodes n s) (aA_ hz) (lE_ _ _ _) (fun i hi => (tE_ n s _).trans (lo_ ht n s i hi)) (by kernel_rfl) (fun a ha h => jF_ a ⟨n, s, txt []⟩ (ac_.sz_Subs (hm a ha)) hs h) (bI_ x.Nodes n s) (by
   unfold bI_
   by_cases hp : bw_ x.Nodes n s < x.Nodes.length
   ·rw [dif_pos hp, getElem?_eq_getElem hp]; exact (pI_ n s _).symm
   ·rw [dif_neg hp, getElem?_eq_none (by omega)]) H
 simp (disch := omega) only [xz_, Bp_, ad_.cells, bE_, Option.map_some, go_sem, reduceEqDiff, Nat.reduceAdd, reduceLeDiff, ↓reduceIte]
 refine aa_.call (hb _) ?_
 simp (disch := omega) only [go_sem, reduceEqDiff, ↓reduceIte]
 exact dg_ _ _ rfl
def vF_ : LC :=
 .q [.o [.f 4], .q [.o [.m 6 0, .ll 7 6, .m 8 1, .ll 9 8, .bb 10 .neq false 7 9], .k 10 (.q [.o [.f 4], .ret]) .skip], .q [.o [.ki 5 0], .block 0 (.loop (.q [.q [.o [.m 11 5, .m 12 0, .ll 13 12, .bb 14 .lss false 11 13],
 .k 14 .skip (.exit 0)], .block 1 (.q [.dops [.m 17 0, .m 18 5, .ia 19 1 17 18, .ln 20 19, .m 21 1, .m 22 5, .ia 23 1 21 22, .ln 24 23, .bb 25 .neq false 20 24], .k 25 (.q [.o [.f 4], .ret]) .skip]), .o [.m 15 5, .bk 16
 .add false 15 1, .m 5 16]]))], .o [.t 4], .ret]
def sV_ : LF := ⟨2, 26, vF_, [.tmp 4]⟩
theorem Cv_ : au_ prog Tryz.f178 sV_ := ah_
theorem i3_ (xs ys : List ByteArray) (hx : xs.length ≤ 1048576) (h : List Row) : aa_ prog 178 [.list 0 1 (xs.map am_), .list 0 1 (ys.map am_)] h (.val (.bool (br_ xs ys))) := by
 refine aj_ mixed Tryz.func178 Cv_ rfl rfl ?_ h
 by_cases hl : xs.length = ys.length
 case neg =>
  have hl' : ((xs.length : Int) = (ys.length : Int)) = False := eq_false (by omega)
  simp (disch := omega) only [sV_, vF_, hl', go_sem, reduceEqDiff, reduceCtorEq, ↓reduceIte]
  exact ae_ (by rw [br_, hh_ _ _ _ hl])
 have hl' : ((xs.length : Int) = (ys.length : Int)) = True := eq_true (by omega)
 simp (disch := omega) only [sV_, vF_, hl', go_sem, reduceEqDiff, reduceCtorEq, ↓reduceIte]
 refine aP_ (fun n t h => ∃ k : Nat, t 0 = .list 0 1 (xs.map am_) ∧ t 1 = .list 0 1 (ys.map am_) ∧ t 5 = .val (.int .i64 k) ∧ n = xs.length - k ∧ k ≤ xs.length ∧ br_ xs ys = e2_ eqS (xs.drop k) (ys.drop k)) xs.length ⟨0, rfl, rfl, rfl, rfl, Nat.zero_le _, rfl⟩ ?_
 rintro J hJ n t h ⟨k, t0, t1, t5, rfl, hk, hS⟩
 by_cases hlt : k < xs.length
 ·have hlt2 : k < ys.length := by omega
  rw [k6_ eqS xs ys k hlt hlt2] at hS
  by_cases e : xs[k] = ys[k]
  ·have e' : (xs[k] = ys[k]) = True := eq_true e
   simp (disch := omega) only [t0, t1, t5, hlt, e', am_, go_sem, reduceEqDiff, reduceCtorEq, ↓reduceIte]
   exact ⟨xs.length - (k + 1), by omega, hJ _ _ _ ⟨k + 1, by simp [upd, t0], by simp [upd, t1], by simp [upd], rfl, by omega, by rw [hS]; simp [eqS, e]⟩⟩
  ·have e' : (xs[k] = ys[k]) = False := eq_false e
   simp (disch := omega) only [t0, t1, t5, hlt, e', am_, go_sem, reduceEqDiff, reduceCtorEq, ↓reduceIte]
   exact ae_ (by rw [hS]; simp [eqS, e])
 ·simp (disch := omega) only [t0, t5, hlt, go_sem, reduceEqDiff, reduceCtorEq, ↓reduceIte]
  exact ae_ (by rw [hS, mr_ _ _ _ _ (by omega) (by omega)])
def BO_ : LC :=
 .q [.o [.f 4], .o [.m 5 0, .m 6 1, .c2 7 178 5 6, .m 4 7], .ret]
def xd_ : LF := ⟨2, 8, BO_, [.tmp 4]⟩
theorem zv_ : au_ prog Tryz.f149 xd_ := ah_
theorem iw_ (xs ys : List ByteArray) (hx : xs.length ≤ 1048576) (h : List Row) : aa_ prog 149 [.list 0 1 (xs.map am_), .list 0 1 (ys.map am_)] h (.val (.bool (br_ xs ys))) := by
 refine aj_ mixed Tryz.func149 zv_ rfl rfl ?_ h
 simp (disch := omega) only [xd_, BO_, go_sem, reduceEqDiff, reduceCtorEq, ↓reduceIte]
 repeat' (first
  | exact af_ _ _
  | simp (disch := omega) only [go_sem, ↓reduceIte]
  | (refine aa_.call (i3_ _ _ hx _) ?_)
  | (refine aa_.q (i3_ _ _ hx _) ?_)
  | ((first | (apply a1_; assumption) | (apply a0_; assumption) | (apply be_; assumption) | (apply bd_; assumption)); intro hb; try simp only [hb])
  | ((first | (apply aM_; assumption) | (apply aN_; assumption) | (apply aX_; assumption) | (apply aY_; assumption)); intro hb; try simp only [hb])
  | ((first | apply aG_ | apply aJ_ | apply ao_ | apply ar_) <;> intro hb <;> (try simp only [hb]) <;> (first | have hp := a8_ hb | have hp := a6_ hb | have hp := a7_ hb | have hp := a5_ hb | skip)))
def v3_ : LC :=
 .q [.o [.f 4], .o [.m 5 0, .ll 6 5, .m 7 1, .ll 8 7, .bb 9 .geq false 6 8, .m 10 9, .gm 11 10 true 0, .gm 12 10 true 1, .g 13 10 true (.lenSl (.tmp 12)), .g 14 10 true (.sliceSl 1 (.tmp 11) none (some (.tmp 13))), .gm 15
 10 true 1, .g 16 10 true (.call 149 [.tmp 14, .tmp 15]), .pf 17 10 16, .m 4 17], .ret]
def r7_ : LF := ⟨2, 18, v3_, [.tmp 4]⟩
theorem BN_ : au_ prog Tryz.f151 r7_ := ah_
theorem fJ_ (a b : List ByteArray) (ha : a.length ≤ 1048576) (h : List Row) : aa_ prog 151 [.list 0 1 (a.map am_), .list 0 1 (b.map am_)] h (.val (.bool (cX_ b a))) := by
 refine aj_ mixed Tryz.func151 BN_ rfl rfl ?_ h
 by_cases hl : b.length ≤ a.length
 ·have hl' : ((b.length : Int) ≤ (a.length : Int)) := by omega
  simp (disch := omega) only [r7_, v3_, hl', hl, bN_, fj_, go_sem, reduceEqDiff, reduceCtorEq, ↓reduceIte]
  refine aa_.call (iw_ (a.take b.length) b (by rw [length_take]; omega) _) ?_
  simp (disch := omega) only [go_sem, reduceEqDiff, ↓reduceIte]
  exact ae_ (by simp only [cX_, hl, br_, decide_true, Bool.true_and]; exact iF_ _ mv_ _ _)
 ·have hl' : ¬ ((b.length : Int) ≤ (a.length : Int)) := by omega
  simp (disch := omega) only [r7_, v3_, hl', go_sem, reduceEqDiff, reduceCtorEq, ↓reduceIte]
  exact ae_ (by simp [cX_, hl])
def inN (n : ByteArray) (s : List ByteArray) (a : ac_) : Bool := decide (a.Name = n) && cX_ s a.Subs
def Az_ : LC :=
 .q [.o [.bx 3 93 0, .f 6], .o [.fa 7 0 3, .ln 8 7, .m 9 1, .bb 10 .eql false 8 9, .m 11 10, .gf 12 11 true 1 3, .gn 13 11 true 12, .gm 14 11 true 2, .g 15 11 true (.call 189 [.tmp 13, .tmp 14]), .pf 16 11 15, .m 6 16],
 .ret]
def xT_ : LF := ⟨3, 17, Az_, [.tmp 6]⟩
theorem z0_ : au_ prog Tryz.f167 xT_ := ah_
theorem fP_ (a : ac_) (n : ByteArray) (s : List ByteArray) (ha : ac_.sz a ≤ 1048576) (h : List Row) : aa_ prog 167 [.agg (ac_.cells a), .val (.string n), .list 0 1 (s.map am_)] h (.val (.bool (inN n s a))) := by
 refine aj_ mixed Tryz.func167 z0_ rfl rfl ?_ h
 simp (disch := omega) only [xT_, Az_, ac_.cells, go_sem, reduceEqDiff, Nat.reduceAdd, ↓reduceIte]
 repeat' (first
  | exact af_ _ _
  | (refine ae_ ?_; first | rfl | (simp only [inN, *, Bool.true_and, Bool.false_and]; done) | (simp [inN, *]; done))
  | simp (disch := omega) only [go_sem, reduceEqDiff, ↓reduceIte]
  | (refine aa_.call (jx_ _ _ (aA_ (ac_.sz_Subs ha)) _) ?_)
  | (refine aa_.q (jx_ _ _ (aA_ (ac_.sz_Subs ha)) _) ?_)
  | ((first | (apply a1_; assumption) | (apply a0_; assumption) | (apply be_; assumption) | (apply bd_; assumption)); intro hb; try simp only [hb])
  | ((first | (apply aM_; assumption) | (apply aN_; assumption) | (apply aX_; assumption) | (apply aY_; assumption)); intro hb; try simp only [hb])
  | ((first | apply aG_ | apply aJ_ | apply ao_ | apply ar_) <;> intro hb <;> (try simp only [hb]) <;> (first | have hp := a8_ hb | have hp := a6_ hb | have hp := a7_ hb | have hp := a5_ hb | skip)))
def CW_ : LC :=
 .q [.o [.bx 3 93 0, .f 6], .o [.fa 7 0 3, .ln 8 7, .m 9 1, .bb 10 .eql false 8 9, .m 11 10, .gf 12 11 true 1 3, .gn 13 11 true 12, .gm 14 11 true 2, .g 15 11 true (.call 151 [.tmp 13, .tmp 14]), .pf 16 11 15, .m 6 16],
 .ret]
def wU_ : LF := ⟨3, 17, CW_, [.tmp 6]⟩
theorem zw_ : au_ prog Tryz.f150 wU_ := ah_
theorem kA_ (a : ac_) (n : ByteArray) (s : List ByteArray) (ha : ac_.sz a ≤ 1048576) (h : List Row) : aa_ prog 150 [.agg (ac_.cells a), .val (.string n), .list 0 1 (s.map am_)] h (.val (.bool (inN n s a))) := by
 refine aj_ mixed Tryz.func150 zw_ rfl rfl ?_ h
 simp (disch := omega) only [wU_, CW_, ac_.cells, go_sem, reduceEqDiff, Nat.reduceAdd, ↓reduceIte]
 repeat' (first
  | exact af_ _ _
  | (refine ae_ ?_; first | rfl | (simp only [inN, *, Bool.true_and, Bool.false_and]; done) | (simp [inN, *]; done))
  | simp (disch := omega) only [go_sem, reduceEqDiff, ↓reduceIte]
  | (refine aa_.call (fJ_ _ _ (aA_ (ac_.sz_Subs ha)) _) ?_)
  | (refine aa_.q (fJ_ _ _ (aA_ (ac_.sz_Subs ha)) _) ?_)
  | ((first | (apply a1_; assumption) | (apply a0_; assumption) | (apply be_; assumption) | (apply bd_; assumption)); intro hb; try simp only [hb])
  | ((first | (apply aM_; assumption) | (apply aN_; assumption) | (apply aX_; assumption) | (apply aY_; assumption)); intro hb; try simp only [hb])
  | ((first | apply aG_ | apply aJ_ | apply ao_ | apply ar_) <;> intro hb <;> (try simp only [hb]) <;> (first | have hp := a8_ hb | have hp := a6_ hb | have hp := a7_ hb | have hp := a5_ hb | skip)))
def fM_ (x : ad_) (n : ByteArray) (s : List ByteArray) : ByteArray × Bool := match x.Nodes[bw_ x.Nodes n s]? with | some a => if fA_ n s a = true then (a.Value, true) else (txt [], false) | none => (txt [], false)
theorem pV_ {x : ad_} {n : ByteArray} {s : List ByteArray} (h : bI_ x.Nodes n s = true) : ∃ hp : bw_ x.Nodes n s < x.Nodes.length, fM_ x n s = (x.Nodes[bw_ x.Nodes n s].Value, true) := by
 unfold bI_ at h
 split at h
 ·rename_i a e
  obtain ⟨hp, e'⟩ := List.getElem?_eq_some_iff.1 e
  refine ⟨hp, ?_⟩
  unfold fM_; (try rw [e]); simp only [h, if_true]; rw [e']
 ·cases h
theorem rV_ {x : ad_} {n : ByteArray} {s : List ByteArray} (h : bI_ x.Nodes n s = false) : fM_ x n s = (txt [], false) := by
 unfold bI_ at h
 unfold fM_
 split at h
 ·rename_i a e; (try rw [e]); simp [h]
 ·rename_i e; first | rw [e] | rfl
abbrev n9_ (p : ByteArray × Bool) : AV := .tup [.val (.string p.1), .val (.bool p.2)]
def zU_ : LC :=
 .q [.o [.bx 3 41 0, .s 6 (.mov (.const (.string ⟨#[]⟩))), .f 7], .o [.ld 11 1 3, .m 12 1, .m 13 2, .c3 14 163 11 12 13, .m 10 14, .ex 15 10 0, .ex 16 10 1, .m 8 15, .m 9 16], .q [.o [.m 17 9, .nt 18 17], .k 18 (.q [.o
 [.s 6 (.mov (.const (.string ⟨#[]⟩))), .f 7], .ret]) .skip], .o [.fa 19 0 3, .ln 20 19, .m 21 8, .ia 22 3 20 21, .fa 23 2 22, .ln 24 23, .m 6 24, .t 7], .ret]
def w5_ : LF := ⟨3, 25, zU_, [.tmp 6, .tmp 7]⟩
theorem zr_ : au_ prog Tryz.f139 w5_ := ah_
theorem mu_ (x : ad_) (n : ByteArray) (s : List ByteArray) (hx : ad_.sz x ≤ 1048576) (hs : an_ ByteArray.size s ≤ 1048576) (ht : aW_ x = true) (h : List Row) : aa_ prog 139 [.agg (ad_.cells x), .val (.string n), .list 0 1 (s.map am_)] h (n9_ (fM_ x n s)) := by
 refine aj_ mixed Tryz.func139 zr_ rfl rfl ?_ h
 simp (disch := omega) only [w5_, zU_, ad_.cells, go_sem, reduceEqDiff, ↓reduceIte]
 refine aa_.call (hp_ x n s hx hs ht _) ?_
 by_cases q : bI_ x.Nodes n s = true
 ·obtain ⟨hlt, e⟩ := pV_ q
  simp (disch := omega) only [q, ac_.cells, go_sem, reduceEqDiff, Nat.reduceAdd, reduceLeDiff, ↓reduceIte]
  rw [e]; exact dg_ _ _ rfl
 ·have q' : bI_ x.Nodes n s = false := by simpa using q
  simp (disch := omega) only [q', go_sem, reduceEqDiff, ↓reduceIte]
  rw [rV_ q']; exact dg_ _ _ rfl
def y6_ : LC :=
 .q [.o [.bx 3 41 0, .ki 6 0, .f 7], .o [.ki 8 0], .block 0 (.loop (.q [.q [.dops [.m 9 8, .fa 10 0 3, .ln 11 10, .ll 12 11, .bb 13 .lss false 9 12, .m 14 13, .gf 15 14 true 0 3, .gn 16 14 true 15, .gm 17 14 true 8, .g 18
 14 true (.indexAddr 3 (.tmp 16) (.tmp 17)), .gf 19 14 true 0 18, .gn 20 14 true 19, .gf 21 14 true 0 3, .gn 22 14 true 21, .gm 23 14 true 8, .g 24 14 true (.indexAddr 3 (.tmp 22) (.tmp 23)), .gf 25 14 true 1 24, .gn 26
 14 true 25, .gm 27 14 true 1, .gm 28 14 true 2, .g 29 14 true (.call 69 [.tmp 20, .tmp 26, .tmp 27, .tmp 28]), .pf 30 14 29], .k 30 .skip (.exit 0)], .block 1 (.o [.m 31 8, .bk 32 .add false 31 1, .m 8 32])])), .o [.m 33
 8, .m 34 8, .fa 35 0 3, .ln 36 35, .ll 37 36, .bb 38 .lss false 34 37, .m 39 38, .gf 40 39 true 0 3, .gn 41 39 true 40, .gm 42 39 true 8, .g 43 39 true (.indexAddr 3 (.tmp 41) (.tmp 42)), .gf 44 39 true 0 43, .gn 45 39
 true 44, .gm 46 39 true 1, .g 47 39 true (.bin .eql false (.tmp 45) (.tmp 46)), .pf 48 39 47, .m 49 48, .gf 50 49 true 0 3, .gn 51 49 true 50, .gm 52 49 true 8, .g 53 49 true (.indexAddr 3 (.tmp 51) (.tmp 52)), .gf 54 49
 true 1 53, .gn 55 49 true 54, .gm 56 49 true 2, .g 57 49 true (.call 149 [.tmp 55, .tmp 56]), .pf 58 49 57, .m 6 33, .m 7 58], .ret]
def wN_ : LF := ⟨3, 59, y6_, [.tmp 6, .tmp 7]⟩
theorem zd_ : au_ prog Tryz.f114 wN_ := ah_
theorem kD_ (x : ad_) (n : ByteArray) (s : List ByteArray) (hx : ad_.sz x ≤ 1048576) (hs : an_ ByteArray.size s ≤ 1048576) (h : List Row) : aa_ prog 114 [.agg (ad_.cells x), .val (.string n), .list 0 1 (s.map am_)] h (.tup [.val (.int .i64 (bw_ x.Nodes n s)), .val (.bool (bI_ x.Nodes n s))]) := by
 refine aj_ mixed Tryz.func114 zd_ rfl rfl ?_ h
 have hz := ad_.sz_Nodes hx
 have hl := aA_ hz
 have hm : ∀ a ∈ x.Nodes, ac_.sz a ≤ 1048576 := fun a ha => cq_ hz ha
 simp (disch := omega) only [wN_, y6_, ad_.cells, go_sem, ↓reduceIte]
 refine aP_ (fun m t h => ∃ k : Nat, t 3 = .ptr 0 1 0 0 ∧ t 1 = .val (.string n) ∧ t 2 = .list 0 1 (s.map am_) ∧ t 8 = .val (.int .i64 k) ∧ h[0]? = some ⟨41, 1, [[.list 0 3 (x.Nodes.map ac_.cells)]]⟩ ∧ m = x.Nodes.length - k ∧ k ≤ x.Nodes.length ∧ bw_ x.Nodes n s = k + ((x.Nodes.drop k).takeWhile (fy_ n s)).length) x.Nodes.length ⟨0, rfl, rfl, rfl, rfl, rfl, rfl, Nat.zero_le _, by simp [bw_]⟩ ?_
 rintro J hJ m t h ⟨k, t3, t1, t2, t8, o0, rfl, hk, hS⟩
 by_cases hlt : k < x.Nodes.length
 ·rw [drop_eq_getElem_cons hlt] at hS
  have hb := hm _ (getElem_mem hlt)
  simp (disch := omega) only [t3, t1, t2, t8, o0, hlt, ac_.cells, go_sem, reduceEqDiff, Nat.reduceAdd, reduceLeDiff, ↓reduceIte]
  refine aa_.q (i7_ _ _ _ _ (ac_.sz_Subs hb) hs _) ?_
  by_cases q : fy_ n s x.Nodes[k] = true
  ·have q' := q
   unfold fy_ b9_ at q'
   rw [takeWhile_cons_of_pos q, lc_] at hS
   simp (disch := omega) only [t8, q', go_sem, reduceEqDiff, ↓reduceIte]
   exact ⟨x.Nodes.length - (k + 1), by omega, hJ _ _ _ ⟨k + 1, by simp [upd, t3], by simp [upd, t1], by simp [upd, t2], by simp [upd], o0, rfl, by omega, by omega⟩⟩
  ·have q1 : fy_ n s x.Nodes[k] = false := by simpa using q
   have q' := q1
   unfold fy_ b9_ at q'
   rw [takeWhile_cons_of_neg q] at hS
   have hp : bw_ x.Nodes n s = k := by simpa using hS
   have hf : bI_ x.Nodes n s = fA_ n s x.Nodes[k] := by unfold bI_; rw [hp, getElem?_eq_getElem hlt]
   by_cases e : x.Nodes[k].Name = n
   ·have e' : (x.Nodes[k].Name = n) = True := eq_true e
    simp (disch := omega) only [t3, t1, t2, t8, o0, hlt, q', e', ac_.cells, go_sem, reduceEqDiff, Nat.reduceAdd, reduceLeDiff, ↓reduceIte]
    refine aa_.call (iw_ _ _ (aA_ (ac_.sz_Subs hb)) _) ?_
    simp (disch := omega) only [go_sem, reduceEqDiff, ↓reduceIte]
    rw [hp, hf]
    refine gy_ _ _ ?_
    simp [fA_, e]
   ·have e' : (x.Nodes[k].Name = n) = False := eq_false e
    simp (disch := omega) only [t3, t1, t8, o0, hlt, q', e', ac_.cells, go_sem, reduceEqDiff, Nat.reduceAdd, ↓reduceIte]
    rw [hp, hf]
    refine gy_ _ _ ?_
    simp [fA_, e]
 ·have hp : bw_ x.Nodes n s = k := by rw [hS, drop_eq_nil_of_le (by omega)]; rfl
  have hf : bI_ x.Nodes n s = false := by unfold bI_; rw [hp, getElem?_eq_none (by omega)]
  simp (disch := omega) only [t3, t8, o0, hlt, go_sem, reduceEqDiff, ↓reduceIte]
  rw [hp, hf]
  exact dg_ _ _ rfl
def mf_ (x : ad_) (n : ByteArray) (s : List ByteArray) : ByteArray × Bool := if (aW_ x && cP_ n s) = true then fM_ x n s else (txt [], false)
def c79 : LC :=
 .q [.o [.bx 3 41 0, .s 6 (.mov (.const (.string ⟨#[]⟩))), .f 7], .q [.o [.ld 10 1 3, .c1 11 29 10, .nt 12 11, .m 13 12, .gm 14 13 false 1, .gm 15 13 false 2, .g 16 13 false (.call 105 [.tmp 14, .tmp 15]), .gu 17 13 false
 16, .pt 18 13 17], .k 18 (.q [.o [.s 6 (.mov (.const (.string ⟨#[]⟩))), .f 7], .ret]) .skip], .o [.ld 20 1 3, .m 21 1, .m 22 2, .c3 23 114 20 21 22, .m 19 23, .ex 24 19 0, .ex 25 19 1, .m 8 24, .m 9 25], .q [.o [.m 26 9,
 .nt 27 26], .k 27 (.q [.o [.s 6 (.mov (.const (.string ⟨#[]⟩))), .f 7], .ret]) .skip], .o [.fa 28 0 3, .ln 29 28, .m 30 8, .ia 31 3 29 30, .fa 32 2 31, .ln 33 32, .m 6 33, .t 7], .ret]
def CV_ : LF := ⟨3, 34, c79, [.tmp 6, .tmp 7]⟩
theorem C5_ : au_ prog Tryz.f79 CV_ := ah_
theorem m5_ (x : ad_) (n : ByteArray) (s : List ByteArray) (hx : ad_.sz x ≤ 1048576) (hn : n.size ≤ 1048576) (hs : an_ ByteArray.size s ≤ 1048576) (h : List Row) : aa_ prog 79 [.agg (ad_.cells x), .val (.string n), .list 0 1 (s.map am_)] h (n9_ (mf_ x n s)) := by
 refine aj_ mixed Tryz.func79 C5_ rfl rfl ?_ h
 simp (disch := omega) only [CV_, c79, ad_.cells, go_sem, reduceEqDiff, ↓reduceIte]
 refine aa_.call (cM_ x hx _) ?_
 by_cases h1 : aW_ x = true
 case neg =>
  have h1' : aW_ x = false := by simpa using h1
  simp (disch := omega) only [h1', go_sem, reduceEqDiff, ↓reduceIte]
  exact gy_ _ _ (by simp [mf_, h1'])
 simp (disch := omega) only [h1, go_sem, reduceEqDiff, ↓reduceIte]
 refine aa_.call (cy_ _ _ hn (aA_ hs) _) ?_
 by_cases h2 : cP_ n s = true
 case neg =>
  have h2' : cP_ n s = false := by simpa using h2
  simp (disch := omega) only [h2', go_sem, reduceEqDiff, ↓reduceIte]
  exact gy_ _ _ (by simp [mf_, h2'])
 have hg : mf_ x n s = fM_ x n s := by simp [mf_, h1, h2]
 rw [hg]
 simp (disch := omega) only [h2, go_sem, reduceEqDiff, ↓reduceIte]
 refine aa_.call (kD_ x n s hx hs _) ?_
 by_cases q : bI_ x.Nodes n s = true
 ·obtain ⟨hlt, e⟩ := pV_ q
  simp (disch := omega) only [q, ac_.cells, go_sem, reduceEqDiff, Nat.reduceAdd, reduceLeDiff, ↓reduceIte]
  rw [e]; exact dg_ _ _ rfl
 ·have q' : bI_ x.Nodes n s = false := by simpa using q
  simp (disch := omega) only [q', go_sem, reduceEqDiff, ↓reduceIte]
  rw [rV_ q']; exact dg_ _ _ rfl
def dU_ (n : ByteArray) (s : List ByteArray) (c : Int) (a : ac_) : Int := if inN n s a = true then (if a.Subs.length = s.length then c + 1 else if c < 10 then c + 10 else c) else c
def iM_ (x : ad_) (n : ByteArray) (s : List ByteArray) : Int := x.Nodes.foldl (dU_ n s) 0
theorem jG_ {α β : Type} (f : β → α → β) (z : β) (l : List α) {k : Nat} (h : k < l.length) : (l.take (k + 1)).foldl f z = f ((l.take k).foldl f z) l[k] := by
 rw [take_succ_eq_append_getElem h, foldl_append]; rfl
theorem vG_ (n : ByteArray) (s : List ByteArray) (c : Int) (a : ac_) (k : Nat) (h1 : 0 ≤ c) (h2 : c ≤ 20 + k) : 0 ≤ dU_ n s c a ∧ dU_ n s c a ≤ 20 + ((k + 1 : Nat) : Int) := by
 unfold dU_
 split
 ·split
  ·omega
  ·split <;> omega
 ·omega
theorem mm_ (n : ByteArray) (s : List ByteArray) (ns : List ac_) : ∀ k : Nat, k ≤ ns.length → 0 ≤ (ns.take k).foldl (dU_ n s) 0 ∧ (ns.take k).foldl (dU_ n s) 0 ≤ 20 + k
 | 0, _ => by simp
 | k + 1, h => by
  have ih := mm_ n s ns k (by omega)
  rw [jG_ _ _ _ (by omega)]
  exact vG_ n s _ _ k ih.1 ih.2
def zL_ : LC :=
 .q [.o [.bx 3 41 0, .ki 6 0], .o [.ki 7 0], .q [.o [.fa 10 0 3, .ln 11 10, .ll 12 11, .ki 13 0], .block 0 (.loop (.q [.o [.bb 14 .lss false 13 12], .k 14 .skip (.exit 0), .block 1 (.q [.o [.ia 15 3 11 13, .ld 16 3 15, .s
 9 (.alloc 93 (.agg #[.string ⟨#[]⟩, .slice none 0 0, .string ⟨#[]⟩])), .st 3 9 16], .q [.o [.ld 17 3 9, .m 18 1, .m 19 2, .c3 20 167 17 18 19, .nt 21 20], .k 21 (.exit 1) .skip], .o [.fa 22 1 9, .ln 23 22, .ll 24 23, .m
 25 2, .ll 26 25, .bb 27 .eql false 24 26], .k 27 (.o [.m 28 7, .bk 29 .add false 28 1, .m 7 29]) (.q [.o [.m 30 7, .bk 31 .lss false 30 10], .k 31 (.o [.m 32 7, .bk 33 .add false 32 10, .m 7 33]) .skip])]), .o [.bk 34
 .add false 13 1, .m 13 34]]))], .o [.m 35 7, .m 6 35], .ret]
def xO_ : LF := ⟨3, 36, zL_, [.tmp 6]⟩
theorem AK_ : au_ prog Tryz.f140 xO_ := ah_
def AD_ : LC :=
 .q [.o [.bx 3 41 0, .ki 6 0], .o [.ki 7 0], .q [.o [.ki 8 0], .block 0 (.loop (.q [.q [.o [.m 9 8, .fa 10 0 3, .ln 11 10, .ll 12 11, .bb 13 .lss false 9 12], .k 13 .skip (.exit 0)], .block 1 (.q [.q [.o [.fa 16 0 3, .ln
 17 16, .m 18 8, .ia 19 3 17 18, .ld 20 3 19, .m 21 1, .m 22 2, .c3 23 150 20 21 22, .nt 24 23], .k 24 (.exit 1) .skip], .o [.fa 25 0 3, .ln 26 25, .m 27 8, .ia 28 3 26 27, .fa 29 1 28, .ln 30 29, .ll 31 30, .m 32 2, .ll
 33 32, .bb 34 .eql false 31 33], .k 34 (.o [.m 35 7, .bk 36 .add false 35 1, .m 7 36]) (.q [.o [.m 37 7, .bk 38 .lss false 37 10], .k 38 (.o [.m 39 7, .bk 40 .add false 39 10, .m 7 40]) .skip])]), .o [.m 14 8, .bk 15
 .add false 14 1, .m 8 15]]))], .o [.m 41 7, .m 6 41], .ret]
def xP_ : LF := ⟨3, 42, AD_, [.tmp 6]⟩
theorem B6_ : au_ prog Tryz.f115 xP_ := ah_
theorem hK_ (x : ad_) (n : ByteArray) (s : List ByteArray) (hx : ad_.sz x ≤ 1048576) (hs : s.length ≤ 1048576) (h : List Row) : aa_ prog 140 [.agg (ad_.cells x), .val (.string n), .list 0 1 (s.map am_)] h (.val (.int .i64 (iM_ x n s))) := by
 refine aj_ mixed Tryz.func140 AK_ rfl rfl ?_ h
 have hz := ad_.sz_Nodes hx
 have hl := aA_ hz
 have hm : ∀ a ∈ x.Nodes, ac_.sz a ≤ 1048576 := fun a ha => cq_ hz ha
 simp (disch := omega) only [xO_, zL_, ad_.cells, go_sem, reduceEqDiff, ↓reduceIte]
 refine aP_ (fun m t h => ∃ (k : Nat) (c : Int), t 3 = .ptr 0 1 0 0 ∧ t 1 = .val (.string n) ∧ t 2 = .list 0 1 (s.map am_) ∧ t 7 = .val (.int .i64 c) ∧ t 11 = .list 0 3 (x.Nodes.map ac_.cells) ∧ t 12 = .val (.int .i64 x.Nodes.length) ∧ t 13 = .val (.int .i64 k) ∧ h[0]? = some ⟨41, 1, [[.list 0 3 (x.Nodes.map ac_.cells)]]⟩ ∧ m = x.Nodes.length - k ∧ k ≤ x.Nodes.length ∧ c = (x.Nodes.take k).foldl (dU_ n s) 0) x.Nodes.length ⟨0, 0, rfl, rfl, rfl, rfl, rfl, rfl, rfl, rfl, rfl, Nat.zero_le _, rfl⟩ ?_
 rintro J hJ m t h ⟨k, c, t3, t1, t2, t7, t11, t12, t13, o0, rfl, hk, hS⟩
 have w0 := fun l => as_ (l := l) o0
 by_cases hlt : k < x.Nodes.length
 ·have hb := hm _ (getElem_mem hlt)
  have hbs := aA_ (ac_.sz_Subs hb)
  have hin := mm_ n s x.Nodes k hk
  rw [← hS] at hin
  have hnx : ∀ (t' : Nat → AV) (c' : Int) (h' : List Row), t' 3 = t 3 → t' 1 = t 1 → t' 2 = t 2 → t' 7 = .val (.int .i64 c') → t' 11 = t 11 → t' 12 = t 12 → t' 13 = .val (.int .i64 (k + 1 : Nat)) → h'[0]? = h[0]? → c' = dU_ n s c x.Nodes[k] → ∃ m, m < x.Nodes.length - k ∧ J m t' h' :=
   fun t' c' h' e3 e1 e2 e7 e11 e12 e13 e0 ec => ⟨x.Nodes.length - (k + 1), by omega, hJ _ _ _ ⟨k + 1, c', e3.trans t3, e1.trans t1, e2.trans t2, e7, e11.trans t11, e12.trans t12, e13, e0.trans o0, rfl, by omega, by rw [ec, jG_ _ _ _ hlt, ← hS]⟩⟩
  simp (disch := omega) only [t1, t2, t11, t12, t13, hlt, ac_.cells, go_sem, reduceEqDiff, Nat.reduceAdd, ↓reduceIte]
  refine aa_.call (fP_ x.Nodes[k] n s hb _) ?_
  by_cases q : inN n s x.Nodes[k] = true
  case neg =>
   have q' : inN n s x.Nodes[k] = false := by simpa using q
   simp (disch := omega) only [t13, q', go_sem, reduceEqDiff, ↓reduceIte]
   exact hnx _ c _ (by simp [upd]) (by simp [upd]) (by simp [upd]) (by simp [upd, t7]) (by simp [upd]) (by simp [upd]) (by simp [upd]) (by first | rfl | (rw [w0, o0])) (by unfold dU_; rw [if_neg q])
  by_cases e : x.Nodes[k].Subs.length = s.length
  ·have e' : ((x.Nodes[k].Subs.length : Int) = (s.length : Int)) = True := eq_true (by omega)
   simp (disch := omega) only [t2, t7, t13, q, e', aq_, go_sem, reduceEqDiff, ↓reduceIte]
   exact hnx _ (c + 1) _ (by simp [upd]) (by simp [upd]) (by simp [upd]) (by simp [upd]) (by simp [upd]) (by simp [upd]) (by simp [upd]) (by first | rfl | (rw [w0, o0])) (by unfold dU_; rw [if_pos q, if_pos e])
  ·have e' : ((x.Nodes[k].Subs.length : Int) = (s.length : Int)) = False := eq_false (by omega)
   by_cases e2 : c < 10
   ·simp (disch := omega) only [t2, t7, t13, q, e', e2, aq_, go_sem, reduceEqDiff, ↓reduceIte]
    exact hnx _ (c + 10) _ (by simp [upd]) (by simp [upd]) (by simp [upd]) (by simp [upd]) (by simp [upd]) (by simp [upd]) (by simp [upd]) (by first | rfl | (rw [w0, o0])) (by unfold dU_; rw [if_pos q, if_neg e, if_pos e2])
   ·simp (disch := omega) only [t2, t7, t13, q, e', e2, aq_, go_sem, reduceEqDiff, ↓reduceIte]
    exact hnx _ c _ (by simp [upd]) (by simp [upd]) (by simp [upd]) (by simp [upd, t7]) (by simp [upd]) (by simp [upd]) (by simp [upd]) (by first | rfl | (rw [w0, o0])) (by unfold dU_; rw [if_pos q, if_neg e, if_neg e2])
 ·simp (disch := omega) only [t7, t12, t13, hlt, go_sem, reduceEqDiff, ↓reduceIte]
  refine aF_ ?_
  rw [hS, take_of_length_le (by omega)]; rfl
theorem iS_ (x : ad_) (n : ByteArray) (s : List ByteArray) (hx : ad_.sz x ≤ 1048576) (hs : s.length ≤ 1048576) (h : List Row) : aa_ prog 115 [.agg (ad_.cells x), .val (.string n), .list 0 1 (s.map am_)] h (.val (.int .i64 (iM_ x n s))) := by
 refine aj_ mixed Tryz.func115 B6_ rfl rfl ?_ h
 have hz := ad_.sz_Nodes hx
 have hl := aA_ hz
 have hm : ∀ a ∈ x.Nodes, ac_.sz a ≤ 1048576 := fun a ha => cq_ hz ha
 simp (disch := omega) only [xP_, AD_, ad_.cells, go_sem, ↓reduceIte]
 refine aP_ (fun m t h => ∃ (k : Nat) (c : Int), t 3 = .ptr 0 1 0 0 ∧ t 1 = .val (.string n) ∧ t 2 = .list 0 1 (s.map am_) ∧ t 7 = .val (.int .i64 c) ∧ t 8 = .val (.int .i64 k) ∧ h[0]? = some ⟨41, 1, [[.list 0 3 (x.Nodes.map ac_.cells)]]⟩ ∧ m = x.Nodes.length - k ∧ k ≤ x.Nodes.length ∧ c = (x.Nodes.take k).foldl (dU_ n s) 0) x.Nodes.length ⟨0, 0, rfl, rfl, rfl, rfl, rfl, rfl, rfl, Nat.zero_le _, rfl⟩ ?_
 rintro J hJ m t h ⟨k, c, t3, t1, t2, t7, t8, o0, rfl, hk, hS⟩
 have w0 := fun l => as_ (l := l) o0
 by_cases hlt : k < x.Nodes.length
 ·have hb := hm _ (getElem_mem hlt)
  have hbs := aA_ (ac_.sz_Subs hb)
  have hin := mm_ n s x.Nodes k hk
  rw [← hS] at hin
  have hnx : ∀ (t' : Nat → AV) (c' : Int) (h' : List Row), t' 3 = t 3 → t' 1 = t 1 → t' 2 = t 2 → t' 7 = .val (.int .i64 c') → t' 8 = .val (.int .i64 (k + 1 : Nat)) → h'[0]? = h[0]? → c' = dU_ n s c x.Nodes[k] → ∃ m, m < x.Nodes.length - k ∧ J m t' h' :=
   fun t' c' h' e3 e1 e2 e7 e8 e0 ec => ⟨x.Nodes.length - (k + 1), by omega, hJ _ _ _ ⟨k + 1, c', e3.trans t3, e1.trans t1, e2.trans t2, e7, e8, e0.trans o0, rfl, by omega, by rw [ec, jG_ _ _ _ hlt, ← hS]⟩⟩
  simp (disch := omega) only [t3, t1, t2, t8, o0, hlt, ac_.cells, go_sem, reduceEqDiff, Nat.reduceAdd, ↓reduceIte]
  refine aa_.call (kA_ x.Nodes[k] n s hb _) ?_
  by_cases q : inN n s x.Nodes[k] = true
  case neg =>
   have q' : inN n s x.Nodes[k] = false := by simpa using q
   simp (disch := omega) only [t8, q', go_sem, reduceEqDiff, ↓reduceIte]
   exact hnx _ c _ (by simp [upd]) (by simp [upd]) (by simp [upd]) (by simp [upd, t7]) (by simp [upd]) (by first | rfl | (rw [w0, o0])) (by unfold dU_; rw [if_neg q])
  by_cases e : x.Nodes[k].Subs.length = s.length
  ·have e' : ((x.Nodes[k].Subs.length : Int) = (s.length : Int)) = True := eq_true (by omega)
   simp (disch := omega) only [t3, t2, t7, t8, o0, q, e', ac_.cells, aq_, go_sem, reduceEqDiff, Nat.reduceAdd, reduceLeDiff, ↓reduceIte]
   exact hnx _ (c + 1) _ (by simp [upd]) (by simp [upd]) (by simp [upd]) (by simp [upd]) (by simp [upd]) (by first | rfl | (rw [w0, o0])) (by unfold dU_; rw [if_pos q, if_pos e])
  ·have e' : ((x.Nodes[k].Subs.length : Int) = (s.length : Int)) = False := eq_false (by omega)
   by_cases e2 : c < 10
   ·simp (disch := omega) only [t3, t2, t7, t8, o0, q, e', e2, ac_.cells, aq_, go_sem, reduceEqDiff, Nat.reduceAdd, reduceLeDiff, ↓reduceIte]
    exact hnx _ (c + 10) _ (by simp [upd]) (by simp [upd]) (by simp [upd]) (by simp [upd]) (by simp [upd]) (by first | rfl | (rw [w0, o0])) (by unfold dU_; rw [if_pos q, if_neg e, if_pos e2])
   ·simp (disch := omega) only [t3, t2, t7, t8, o0, q, e', e2, ac_.cells, aq_, go_sem, reduceEqDiff, Nat.reduceAdd, reduceLeDiff, ↓reduceIte]
    exact hnx _ c _ (by simp [upd]) (by simp [upd]) (by simp [upd]) (by simp [upd, t7]) (by simp [upd]) (by first | rfl | (rw [w0, o0])) (by unfold dU_; rw [if_pos q, if_neg e, if_neg e2])
 ·simp (disch := omega) only [t3, t7, t8, o0, hlt, go_sem, reduceEqDiff, ↓reduceIte]
  refine aF_ ?_
  rw [hS, take_of_length_le (by omega)]; rfl
def c80 : LC :=
 .q [.o [.bx 3 41 0, .ki 6 0], .q [.o [.ld 7 1 3, .c1 8 29 7, .nt 9 8, .m 10 9, .gm 11 10 false 1, .gm 12 10 false 2, .g 13 10 false (.call 105 [.tmp 11, .tmp 12]), .gu 14 10 false 13, .pt 15 10 14], .k 15 (.q [.o [.ki 6
 0], .ret]) .skip], .o [.ld 16 1 3, .m 17 1, .m 18 2, .c3 19 115 16 17 18, .m 6 19], .ret]
def B8_ : LF := ⟨3, 20, c80, [.tmp 6]⟩
theorem Dq_ : au_ prog Tryz.f80 B8_ := ah_
theorem n4_ (x : ad_) (n : ByteArray) (s : List ByteArray) (hx : ad_.sz x ≤ 1048576) (hn : n.size ≤ 1048576) (hs : s.length ≤ 1048576) (h : List Row) : aa_ prog 80 [.agg (ad_.cells x), .val (.string n), .list 0 1 (s.map am_)] h (.val (.int .i64 (if (aW_ x && cP_ n s) = true then iM_ x n s else 0))) := by
 refine aj_ mixed Tryz.func80 Dq_ rfl rfl ?_ h
 simp (disch := omega) only [B8_, c80, ad_.cells, go_sem, reduceEqDiff, ↓reduceIte]
 repeat' (first
  | exact af_ _ _
  | (refine aF_ ?_; simp [*]; done)
  | simp (disch := omega) only [go_sem, reduceEqDiff, ↓reduceIte]
  | (refine aa_.call (show aa_ prog 29 [.agg [.list 0 3 (x.Nodes.map ac_.cells)]] _ _ from cM_ x hx _) ?_)
  | (refine aa_.q (show aa_ prog 29 [.agg [.list 0 3 (x.Nodes.map ac_.cells)]] _ _ from cM_ x hx _) ?_)
  | (refine aa_.call (cy_ _ _ hn hs _) ?_)
  | (refine aa_.q (cy_ _ _ hn hs _) ?_)
  | (refine aa_.call (show aa_ prog 115 [.agg [.list 0 3 (x.Nodes.map ac_.cells)], .val (.string n), .list 0 1 (s.map am_)] _ _ from iS_ x n s hx hs _) ?_)
  | (refine aa_.q (show aa_ prog 115 [.agg [.list 0 3 (x.Nodes.map ac_.cells)], .val (.string n), .list 0 1 (s.map am_)] _ _ from iS_ x n s hx hs _) ?_)
  | ((first | (apply a1_; assumption) | (apply a0_; assumption) | (apply be_; assumption) | (apply bd_; assumption)); intro hb; try simp only [hb])
  | ((first | (apply aM_; assumption) | (apply aN_; assumption) | (apply aX_; assumption) | (apply aY_; assumption)); intro hb; try simp only [hb])
  | ((first | apply aG_ | apply aJ_ | apply ao_ | apply ar_) <;> intro hb <;> (try simp only [hb]) <;> (first | have hp := a8_ hb | have hp := a6_ hb | have hp := a7_ hb | have hp := a5_ hb | skip)))
theorem q5_ (a b : List UInt8) : decide (dj_ a b < 0) = before a b := by
 rw [Bool.eq_iff_iff, decide_eq_true_eq, ja_]
def Al_ : LC :=
 .q [.o [.f 4], .o [.m 5 0, .m 6 1, .c2 7 157 5 6, .bk 8 .lss false 7 0, .m 4 8], .ret]
def xH_ : LF := ⟨2, 9, Al_, [.tmp 4]⟩
theorem BB_ : au_ Tryz.prog Tryz.f168 xH_ := ah_
theorem dH_ (a b : ByteArray) (ha : a.size ≤ 1048576) (hbb : b.size ≤ 1048576) (h : List Row) : aa_ Tryz.prog 168 [.val (.string a), .val (.string b)] h (.val (.bool (before a.data.toList b.data.toList))) := by
 refine aj_ mixed Tryz.func168 BB_ rfl rfl ?_ h
 simp (disch := omega) only [xH_, Al_, go_sem, reduceEqDiff, reduceCtorEq, ↓reduceIte]
 repeat' (first
  | exact af_ _ _
  | exact ae_ (q5_ _ _)
  | simp (disch := omega) only [go_sem, ↓reduceIte]
  | (refine aa_.call (e7_ _ _ ha hbb _) ?_)
  | (refine aa_.q (e7_ _ _ ha hbb _) ?_)
  | ((first | (apply aM_; assumption) | (apply aN_; assumption) | (apply aX_; assumption) | (apply aY_; assumption)); intro hb; try simp only [hb])
  | ((first | apply ao_ | apply ar_) <;> intro hb <;> (try simp only [hb]) <;> (first | have hp := a8_ hb | have hp := a6_ hb | have hp := a7_ hb | have hp := a5_ hb | skip)))
def dR_ (n : ByteArray) (s : List ByteArray) (a : ac_) : Bool := decide (a.Name = n) && decide (s.length ≤ a.Subs.length) && br_ (a.Subs.take (s.length - 1)) (s.take (s.length - 1))
def a3_ (back : Bool) (last best t : ByteArray) : Bool :=
 if back = true then (decide (last = txt []) || before t.data.toList last.data.toList) && (decide (best = txt []) || before best.data.toList t.data.toList)
 else (decide (last = txt []) || before last.data.toList t.data.toList) && (decide (best = txt []) || before t.data.toList best.data.toList)
def fC_ (n : ByteArray) (s : List ByteArray) (back : Bool) (last best : ByteArray) (a : ac_) : ByteArray :=
 match a.Subs[s.length - 1]? with
 | some t => if (dR_ n s a && a3_ back last best t) = true then t else best
 | none => best
def fU_ (x : ad_) (n : ByteArray) (s : List ByteArray) (back : Bool) : ByteArray := x.Nodes.foldl (fC_ n s back (s.getD (s.length - 1) (txt []))) (txt [])
theorem no_ {n : ByteArray} {s : List ByteArray} {back : Bool} {last best : ByteArray} {a : ac_} (h : dR_ n s a = false) : fC_ n s back last best a = best := by
 unfold fC_; split <;> simp [h]
theorem oq_ {n : ByteArray} {s : List ByteArray} {back : Bool} {last best : ByteArray} {a : ac_} (h : dR_ n s a = true) (hl : s.length - 1 < a.Subs.length) : fC_ n s back last best a = if a3_ back last best a.Subs[s.length - 1] = true then a.Subs[s.length - 1] else best := by
 unfold fC_; rw [getElem?_eq_getElem hl]; simp only [h, Bool.true_and]
theorem na_ {s us : List ByteArray} (h : s.length - 1 ≤ us.length) : cX_ (s.take (s.length - 1)) us = br_ (us.take (s.length - 1)) (s.take (s.length - 1)) := by
 have hl : (s.take (s.length - 1)).length = s.length - 1 := by rw [length_take]; omega
 unfold cX_ br_
 rw [hl, decide_eq_true h, Bool.true_and]
 exact iF_ _ mv_ _ _
def zX_ : LC :=
 .q [.o [.bx 4 41 0, .s 8 (.mov (.const (.string ⟨#[]⟩)))], .o [.m 15 2, .ll 16 15, .m 9 16, .s 10 (.mov (.const (.string ⟨#[]⟩)))], .o [.m 17 2, .m 18 9, .bk 19 .sub false 18 1, .ia 20 1 17 19, .ln 21 20, .m 11 21], .q
 [.o [.fa 22 0 4, .ln 23 22, .ll 24 23, .ki 25 0], .block 0 (.loop (.q [.o [.bb 26 .lss false 25 24], .k 26 .skip (.exit 0), .block 1 (.q [.o [.ia 27 3 23 25, .ld 28 3 27, .s 13 (.alloc 93 (.agg #[.string ⟨#[]⟩, .slice
 none 0 0, .string ⟨#[]⟩])), .st 3 13 28], .q [.dops [.fa 29 0 13, .ln 30 29, .m 31 1, .bb 32 .neq false 30 31, .m 33 32, .gf 34 33 false 1 13, .gn 35 33 false 34, .g 36 33 false (.lenSl (.tmp 35)), .gm 37 33 false 9, .g
 38 33 false (.bin .lss false (.tmp 36) (.tmp 37)), .pt 39 33 38, .m 40 39, .gf 41 40 false 1 13, .gn 42 40 false 41, .gm 43 40 false 9, .g 44 40 false (.bin .sub false (.tmp 43) (.const (.int .i64 1))), .g 45 40 false
 (.sliceSl 1 (.tmp 42) none (some (.tmp 44))), .gm 46 40 false 2, .gm 47 40 false 9, .g 48 40 false (.bin .sub false (.tmp 47) (.const (.int .i64 1))), .g 49 40 false (.sliceSl 1 (.tmp 46) none (some (.tmp 48))), .g 50 40
 false (.call 138 [.tmp 45, .tmp 49]), .gu 51 40 false 50, .pt 52 40 51], .k 52 (.exit 1) .skip], .o [.fa 53 1 13, .ln 54 53, .m 55 9, .bk 56 .sub false 55 1, .ia 57 1 54 56, .ln 58 57, .m 14 58], .o [.m 59 3], .k 59 (.q
 [.o [.m 60 11, .s 61 (.bin .eql false (.tmp 60) (.const (.string ⟨#[]⟩))), .m 62 61, .gm 63 62 false 14, .gm 64 62 false 11, .g 65 62 false (.call 168 [.tmp 63, .tmp 64]), .pt 66 62 65, .m 67 66, .gm 68 67 true 10, .g 69
 67 true (.bin .eql false (.tmp 68) (.const (.string ⟨#[]⟩))), .gm 70 67 true 69, .gm 71 70 false 10, .gm 72 70 false 14, .g 73 70 false (.call 168 [.tmp 71, .tmp 72]), .g 74 67 true (.pick (.tmp 70) (.const (.bool true))
 (.tmp 73)), .pf 75 67 74], .k 75 (.o [.m 76 14, .m 10 76]) .skip]) (.q [.o [.m 77 11, .s 78 (.bin .eql false (.tmp 77) (.const (.string ⟨#[]⟩))), .m 79 78, .gm 80 79 false 11, .gm 81 79 false 14, .g 82 79 false (.call
 168 [.tmp 80, .tmp 81]), .pt 83 79 82, .m 84 83, .gm 85 84 true 10, .g 86 84 true (.bin .eql false (.tmp 85) (.const (.string ⟨#[]⟩))), .gm 87 84 true 86, .gm 88 87 false 14, .gm 89 87 false 10, .g 90 87 false (.call 168
 [.tmp 88, .tmp 89]), .g 91 84 true (.pick (.tmp 87) (.const (.bool true)) (.tmp 90)), .pf 92 84 91], .k 92 (.o [.m 93 14, .m 10 93]) .skip])]), .o [.bk 94 .add false 25 1, .m 25 94]]))], .o [.m 95 10, .m 8 95], .ret]
def xp_ : LF := ⟨4, 96, zX_, [.tmp 8]⟩
theorem Bm_ : au_ Tryz.prog Tryz.f141 xp_ := ah_
def Ad_ : LC :=
 .q [.o [.bx 4 41 0, .s 8 (.mov (.const (.string ⟨#[]⟩)))], .o [.m 15 2, .ll 16 15, .m 9 16], .o [.m 17 2, .m 18 9, .bk 19 .sub false 18 1, .ia 20 1 17 19, .ln 21 20, .m 10 21, .s 11 (.mov (.const (.string ⟨#[]⟩)))], .q
 [.o [.ki 12 0], .block 0 (.loop (.q [.q [.o [.m 22 12, .fa 23 0 4, .ln 24 23, .ll 25 24, .bb 26 .lss false 22 25], .k 26 .skip (.exit 0)], .block 1 (.q [.o [.fa 29 0 4, .ln 30 29, .m 31 12, .ia 32 3 30 31, .ld 33 3 32,
 .s 13 (.alloc 93 (.agg #[.string ⟨#[]⟩, .slice none 0 0, .string ⟨#[]⟩])), .st 3 13 33], .q [.dops [.fa 34 0 13, .ln 35 34, .m 36 1, .bb 37 .neq false 35 36, .m 38 37, .gf 39 38 false 1 13, .gn 40 38 false 39, .g 41 38
 false (.lenSl (.tmp 40)), .gm 42 38 false 9, .g 43 38 false (.bin .lss false (.tmp 41) (.tmp 42)), .pt 44 38 43, .m 45 44, .gf 46 45 false 1 13, .gn 47 45 false 46, .gm 48 45 false 2, .gm 49 45 false 9, .g 50 45 false
 (.bin .sub false (.tmp 49) (.const (.int .i64 1))), .g 51 45 false (.sliceSl 1 (.tmp 48) none (some (.tmp 50))), .g 52 45 false (.call 151 [.tmp 47, .tmp 51]), .gu 53 45 false 52, .pt 54 45 53], .k 54 (.exit 1) .skip],
 .o [.fa 55 1 13, .ln 56 55, .m 57 9, .bk 58 .sub false 57 1, .ia 59 1 56 58, .ln 60 59, .m 14 60], .q [.o [.m 61 3, .m 62 61, .gm 63 62 true 10, .g 64 62 true (.bin .eql false (.tmp 63) (.const (.string ⟨#[]⟩))), .gm 65
 62 true 64, .gm 66 65 false 14, .gm 67 65 false 10, .g 68 65 false (.call 152 [.tmp 66, .tmp 67]), .g 69 62 true (.pick (.tmp 65) (.const (.bool true)) (.tmp 68)), .pf 70 62 69, .m 71 70, .gm 72 71 true 11, .g 73 71 true
 (.bin .eql false (.tmp 72) (.const (.string ⟨#[]⟩))), .gm 74 71 true 73, .gm 75 74 false 11, .gm 76 74 false 14, .g 77 74 false (.call 152 [.tmp 75, .tmp 76]), .g 78 71 true (.pick (.tmp 74) (.const (.bool true)) (.tmp
 77)), .pf 79 71 78], .k 79 (.o [.m 80 14, .m 11 80]) .skip], .o [.m 81 3, .nt 82 81, .m 83 82, .gm 84 83 true 10, .g 85 83 true (.bin .eql false (.tmp 84) (.const (.string ⟨#[]⟩))), .gm 86 83 true 85, .gm 87 86 false 10,
 .gm 88 86 false 14, .g 89 86 false (.call 152 [.tmp 87, .tmp 88]), .g 90 83 true (.pick (.tmp 86) (.const (.bool true)) (.tmp 89)), .pf 91 83 90, .m 92 91, .gm 93 92 true 11, .g 94 92 true (.bin .eql false (.tmp 93)
 (.const (.string ⟨#[]⟩))), .gm 95 92 true 94, .gm 96 95 false 14, .gm 97 95 false 11, .g 98 95 false (.call 152 [.tmp 96, .tmp 97]), .g 99 92 true (.pick (.tmp 95) (.const (.bool true)) (.tmp 98)), .pf 100 92 99], .k 100
 (.o [.m 101 14, .m 11 101]) .skip]), .o [.m 27 12, .bk 28 .add false 27 1, .m 12 28]]))], .o [.m 102 11, .m 8 102], .ret]
def xD_ : LF := ⟨4, 103, Ad_, [.tmp 8]⟩
theorem BS_ : au_ Tryz.prog Tryz.f117 xD_ := ah_
theorem k5_ (x : ad_) (n : ByteArray) (s : List ByteArray) (back : Bool) (hx : ad_.sz x ≤ 1048576) (hs : an_ ByteArray.size s ≤ 1048576) (h0 : 0 < s.length) (h : List Row) : aa_ Tryz.prog 141 [.agg (ad_.cells x), .val (.string n), .list 0 1 (s.map am_), .val (.bool back)] h (.val (.string (fU_ x n s back))) := by
 refine aj_ mixed Tryz.func141 Bm_ rfl rfl ?_ h
 have hz := ad_.sz_Nodes hx
 have hl := aA_ hz
 have hsl := aA_ hs
 have hm : ∀ a ∈ x.Nodes, ac_.sz a ≤ 1048576 := fun a ha => cq_ hz ha
 have hn1 : (s.length : Int) - 1 = ((s.length - 1 : Nat) : Int) := by omega
 have hlast : s.length - 1 < s.length := by omega
 have hlz := e0_ hs (getElem_mem hlast)
 have hO : fU_ x n s back = x.Nodes.foldl (fC_ n s back s[s.length - 1]) (txt []) := by unfold fU_; rw [getD_eq_getElem?_getD, getElem?_eq_getElem hlast, Option.getD_some]
 rw [hO]
 simp (disch := omega) only [xp_, zX_, ad_.cells, hn1, aq_, am_, go_sem, reduceEqDiff, ↓reduceIte]
 refine aP_ (fun m t h => ∃ (k : Nat) (best : ByteArray), t 4 = .ptr 0 1 0 0 ∧ t 1 = .val (.string n) ∧ t 2 = .list 0 1 (s.map am_) ∧ t 3 = .val (.bool back) ∧ t 9 = .val (.int .i64 s.length) ∧ t 11 = .val (.string s[s.length - 1]) ∧ t 10 = .val (.string best) ∧ t 23 = .list 0 3 (x.Nodes.map ac_.cells) ∧ t 24 = .val (.int .i64 x.Nodes.length) ∧ t 25 = .val (.int .i64 k) ∧ h[0]? = some ⟨41, 1, [[.list 0 3 (x.Nodes.map ac_.cells)]]⟩ ∧ m = x.Nodes.length - k ∧ k ≤ x.Nodes.length ∧ best.size ≤ 1048576 ∧ best = (x.Nodes.take k).foldl (fC_ n s back s[s.length - 1]) (txt [])) x.Nodes.length ⟨0, txt [], rfl, rfl, rfl, rfl, rfl, rfl, rfl, rfl, rfl, rfl, rfl, rfl, Nat.zero_le _, by simp [cf_], rfl⟩ ?_
 rintro J hJ m t h ⟨k, best, t4, t1, t2, t3, t9, tL, tB, t23, t24, t25, o0, rfl, hk, hbz, hS⟩
 have w0 := fun l => as_ (l := l) o0
 by_cases hlt : k < x.Nodes.length
 ·have hb := hm _ (getElem_mem hlt)
  have hbs := aA_ (ac_.sz_Subs hb)
  have hnx : ∀ (t' : Nat → AV) (b' : ByteArray) (h' : List Row), t' 4 = t 4 → t' 1 = t 1 → t' 2 = t 2 → t' 3 = t 3 → t' 9 = t 9 → t' 11 = t 11 → t' 10 = .val (.string b') → t' 23 = t 23 → t' 24 = t 24 → t' 25 = .val (.int .i64 (k + 1 : Nat)) → h'[0]? = h[0]? → b'.size ≤ 1048576 → b' = fC_ n s back s[s.length - 1] best x.Nodes[k] → ∃ m, m < x.Nodes.length - k ∧ J m t' h' :=
   fun t' b' h' e4 e1 e2 e3 e9 eL eB e23 e24 e25 e0 ez ec => ⟨x.Nodes.length - (k + 1), by omega, hJ _ _ _ ⟨k + 1, b', e4.trans t4, e1.trans t1, e2.trans t2, e3.trans t3, e9.trans t9, eL.trans tL, eB, e23.trans t23, e24.trans t24, e25, e0.trans o0, rfl, by omega, ez, by rw [ec, jG_ _ _ _ hlt, ← hS]⟩⟩
  have hmiss : dR_ n s x.Nodes[k] = false → ∀ (t' : Nat → AV) (h' : List Row), t' 4 = t 4 → t' 1 = t 1 → t' 2 = t 2 → t' 3 = t 3 → t' 9 = t 9 → t' 11 = t 11 → t' 10 = .val (.string best) → t' 23 = t 23 → t' 24 = t 24 → t' 25 = .val (.int .i64 (k + 1 : Nat)) → h'[0]? = h[0]? → ∃ m, m < x.Nodes.length - k ∧ J m t' h' :=
   fun q t' h' e4 e1 e2 e3 e9 eL eB e23 e24 e25 e0 => hnx t' best h' e4 e1 e2 e3 e9 eL eB e23 e24 e25 e0 hbz (no_ q).symm
  by_cases q1 : x.Nodes[k].Name = n
  case neg =>
   have q1' : (x.Nodes[k].Name = n) = False := eq_false q1
   simp (disch := omega) only [t1, t3, t9, tL, tB, t23, t24, t25, q1', hlt, ac_.cells, ag_, go_sem, reduceEqDiff, Nat.reduceAdd, ↓reduceIte]
   exact hmiss (by simp [dR_, q1]) _ _ (by simp [upd]) (by simp [upd]) (by simp [upd]) (by simp [upd]) (by simp [upd]) (by simp [upd]) (by simp [upd, tB]) (by simp [upd]) (by simp [upd]) (by simp [upd]) (by first | rfl | (rw [w0, o0]))
  have q1' : (x.Nodes[k].Name = n) = True := eq_true q1
  by_cases q2 : s.length ≤ x.Nodes[k].Subs.length
  case neg =>
   have q2' : ((x.Nodes[k].Subs.length : Int) < (s.length : Int)) = True := eq_true (by omega)
   simp (disch := omega) only [t1, t3, t9, tL, tB, t23, t24, t25, q1', q2', hlt, ac_.cells, ag_, go_sem, reduceEqDiff, Nat.reduceAdd, ↓reduceIte]
   exact hmiss (by simp [dR_, q2]) _ _ (by simp [upd]) (by simp [upd]) (by simp [upd]) (by simp [upd]) (by simp [upd]) (by simp [upd]) (by simp [upd, tB]) (by simp [upd]) (by simp [upd]) (by simp [upd]) (by first | rfl | (rw [w0, o0]))
  have q2' : ((x.Nodes[k].Subs.length : Int) < (s.length : Int)) = False := eq_false (by omega)
  have q2n : s.length - 1 ≤ x.Nodes[k].Subs.length := by omega
  have q2l : s.length - 1 < x.Nodes[k].Subs.length := by omega
  have q2s : s.length - 1 ≤ s.length := by omega
  have htz := e0_ (ac_.sz_Subs hb) (getElem_mem q2l)
  simp (disch := omega) only [t1, t2, t3, t9, tL, tB, t23, t24, t25, q1', q2', q2n, q2s, hn1, hlt, bN_, fj_, aq_, ac_.cells, ag_, go_sem, reduceEqDiff, Nat.reduceAdd, ↓reduceIte]
  refine aa_.q (dh_ (x.Nodes[k].Subs.take (s.length - 1)) (s.take (s.length - 1)) (by rw [length_take]; omega) _) ?_
  by_cases q3 : br_ (x.Nodes[k].Subs.take (s.length - 1)) (s.take (s.length - 1)) = true
  case neg =>
   have q3' : br_ (x.Nodes[k].Subs.take (s.length - 1)) (s.take (s.length - 1)) = false := by simpa using q3
   have q3n := q3'
   simp (disch := omega) only [q3n, go_sem]
   exact hmiss (by simp [dR_, q3']) _ _ (by simp [upd]) (by simp [upd]) (by simp [upd]) (by simp [upd]) (by simp [upd]) (by simp [upd]) (by simp [upd, tB]) (by simp [upd]) (by simp [upd]) (by simp [upd]) (by first | rfl | (rw [w0, o0]))
  have hhit : dR_ n s x.Nodes[k] = true := by simp [dR_, q1, q2, q3]
  have hst := oq_ (back := back) (last := s[s.length - 1]) (best := best) hhit q2l
  have q3n := q3
  clear hmiss
  cases back
  ·by_cases eL : s[s.length - 1] = txt []
   ·have eL' : (s[s.length - 1] = txt []) = True := eq_true eL
    simp (disch := omega) only [tB, q3n, am_, eL', go_sem, reduceEqDiff, ↓reduceIte]
    by_cases eB : best = txt []
    ·have eB' : (best = txt []) = True := eq_true eB
     simp (disch := omega) only [t25, aq_, eB', ag_, go_sem, reduceEqDiff, ↓reduceIte]
     have hbt : a3_ false s[s.length - 1] best x.Nodes[k].Subs[s.length - 1] = true := by unfold a3_; simp [eL, eB]
     rw [hbt] at hst
     exact hnx _ (x.Nodes[k].Subs[s.length - 1]) _ (by simp [upd]) (by simp [upd]) (by simp [upd]) (by simp [upd]) (by simp [upd]) (by simp [upd]) (by simp [upd]) (by simp [upd]) (by simp [upd]) (by simp [upd]) (by first | rfl | (rw [w0, o0])) htz (by rw [hst]; simp)
    ·have eB' : (best = txt []) = False := eq_false eB
     simp (disch := omega) only [tB, eB', go_sem, reduceEqDiff, ↓reduceIte]
     refine aa_.call (dH_ _ _ htz hbz _) ?_
     cases c2 : before x.Nodes[k].Subs[s.length - 1].data.toList best.data.toList
     ·skip
      simp (disch := omega) only [t25, aq_, ag_, go_sem, reduceEqDiff, ↓reduceIte]
      have hbt : a3_ false s[s.length - 1] best x.Nodes[k].Subs[s.length - 1] = false := by unfold a3_; simp [eL, eB, c2]
      rw [hbt] at hst
      exact hnx _ (best) _ (by simp [upd]) (by simp [upd]) (by simp [upd]) (by simp [upd]) (by simp [upd]) (by simp [upd]) (by simp [upd, tB]) (by simp [upd]) (by simp [upd]) (by simp [upd]) (by first | rfl | (rw [w0, o0])) hbz (by rw [hst]; simp)
     ·skip
      simp (disch := omega) only [t25, aq_, ag_, go_sem, reduceEqDiff, ↓reduceIte]
      have hbt : a3_ false s[s.length - 1] best x.Nodes[k].Subs[s.length - 1] = true := by unfold a3_; simp [eL, eB, c2]
      rw [hbt] at hst
      exact hnx _ (x.Nodes[k].Subs[s.length - 1]) _ (by simp [upd]) (by simp [upd]) (by simp [upd]) (by simp [upd]) (by simp [upd]) (by simp [upd]) (by simp [upd]) (by simp [upd]) (by simp [upd]) (by simp [upd]) (by first | rfl | (rw [w0, o0])) htz (by rw [hst]; simp)
   ·have eL' : (s[s.length - 1] = txt []) = False := eq_false eL
    simp (disch := omega) only [tL, q3n, am_, eL', go_sem, reduceEqDiff, ↓reduceIte]
    refine aa_.call (dH_ _ _ hlz htz _) ?_
    cases c1 : before s[s.length - 1].data.toList x.Nodes[k].Subs[s.length - 1].data.toList
    ·skip
     simp (disch := omega) only [t25, aq_, ag_, go_sem, reduceEqDiff, ↓reduceIte]
     have hbt : a3_ false s[s.length - 1] best x.Nodes[k].Subs[s.length - 1] = false := by unfold a3_; simp [eL, c1]
     rw [hbt] at hst
     exact hnx _ (best) _ (by simp [upd]) (by simp [upd]) (by simp [upd]) (by simp [upd]) (by simp [upd]) (by simp [upd]) (by simp [upd, tB]) (by simp [upd]) (by simp [upd]) (by simp [upd]) (by first | rfl | (rw [w0, o0])) hbz (by rw [hst]; simp)
    ·skip
     simp (disch := omega) only [tB, go_sem, reduceEqDiff, ↓reduceIte]
     by_cases eB : best = txt []
     ·have eB' : (best = txt []) = True := eq_true eB
      simp (disch := omega) only [t25, aq_, eB', ag_, go_sem, reduceEqDiff, ↓reduceIte]
      have hbt : a3_ false s[s.length - 1] best x.Nodes[k].Subs[s.length - 1] = true := by unfold a3_; simp [eL, c1, eB]
      rw [hbt] at hst
      exact hnx _ (x.Nodes[k].Subs[s.length - 1]) _ (by simp [upd]) (by simp [upd]) (by simp [upd]) (by simp [upd]) (by simp [upd]) (by simp [upd]) (by simp [upd]) (by simp [upd]) (by simp [upd]) (by simp [upd]) (by first | rfl | (rw [w0, o0])) htz (by rw [hst]; simp)
     ·have eB' : (best = txt []) = False := eq_false eB
      simp (disch := omega) only [tB, eB', go_sem, reduceEqDiff, ↓reduceIte]
      refine aa_.call (dH_ _ _ htz hbz _) ?_
      cases c2 : before x.Nodes[k].Subs[s.length - 1].data.toList best.data.toList
      ·skip
       simp (disch := omega) only [t25, aq_, ag_, go_sem, reduceEqDiff, ↓reduceIte]
       have hbt : a3_ false s[s.length - 1] best x.Nodes[k].Subs[s.length - 1] = false := by unfold a3_; simp [eL, c1, eB, c2]
       rw [hbt] at hst
       exact hnx _ (best) _ (by simp [upd]) (by simp [upd]) (by simp [upd]) (by simp [upd]) (by simp [upd]) (by simp [upd]) (by simp [upd, tB]) (by simp [upd]) (by simp [upd]) (by simp [upd]) (by first | rfl | (rw [w0, o0])) hbz (by rw [hst]; simp)
      ·skip
       simp (disch := omega) only [t25, aq_, ag_, go_sem, reduceEqDiff, ↓reduceIte]
       have hbt : a3_ false s[s.length - 1] best x.Nodes[k].Subs[s.length - 1] = true := by unfold a3_; simp [eL, c1, eB, c2]
       rw [hbt] at hst
       exact hnx _ (x.Nodes[k].Subs[s.length - 1]) _ (by simp [upd]) (by simp [upd]) (by simp [upd]) (by simp [upd]) (by simp [upd]) (by simp [upd]) (by simp [upd]) (by simp [upd]) (by simp [upd]) (by simp [upd]) (by first | rfl | (rw [w0, o0])) htz (by rw [hst]; simp)
  ·by_cases eL : s[s.length - 1] = txt []
   ·have eL' : (s[s.length - 1] = txt []) = True := eq_true eL
    simp (disch := omega) only [tB, q3n, am_, eL', go_sem, reduceEqDiff, ↓reduceIte]
    by_cases eB : best = txt []
    ·have eB' : (best = txt []) = True := eq_true eB
     simp (disch := omega) only [t25, aq_, eB', ag_, go_sem, reduceEqDiff, ↓reduceIte]
     have hbt : a3_ true s[s.length - 1] best x.Nodes[k].Subs[s.length - 1] = true := by unfold a3_; simp [eL, eB]
     rw [hbt] at hst
     exact hnx _ (x.Nodes[k].Subs[s.length - 1]) _ (by simp [upd]) (by simp [upd]) (by simp [upd]) (by simp [upd]) (by simp [upd]) (by simp [upd]) (by simp [upd]) (by simp [upd]) (by simp [upd]) (by simp [upd]) (by first | rfl | (rw [w0, o0])) htz (by rw [hst]; simp)
    ·have eB' : (best = txt []) = False := eq_false eB
     simp (disch := omega) only [tB, eB', go_sem, reduceEqDiff, ↓reduceIte]
     refine aa_.call (dH_ _ _ hbz htz _) ?_
     cases c2 : before best.data.toList x.Nodes[k].Subs[s.length - 1].data.toList
     ·skip
      simp (disch := omega) only [t25, aq_, ag_, go_sem, reduceEqDiff, ↓reduceIte]
      have hbt : a3_ true s[s.length - 1] best x.Nodes[k].Subs[s.length - 1] = false := by unfold a3_; simp [eL, eB, c2]
      rw [hbt] at hst
      exact hnx _ (best) _ (by simp [upd]) (by simp [upd]) (by simp [upd]) (by simp [upd]) (by simp [upd]) (by simp [upd]) (by simp [upd, tB]) (by simp [upd]) (by simp [upd]) (by simp [upd]) (by first | rfl | (rw [w0, o0])) hbz (by rw [hst]; simp)
     ·skip
      simp (disch := omega) only [t25, aq_, ag_, go_sem, reduceEqDiff, ↓reduceIte]
      have hbt : a3_ true s[s.length - 1] best x.Nodes[k].Subs[s.length - 1] = true := by unfold a3_; simp [eL, eB, c2]
      rw [hbt] at hst
      exact hnx _ (x.Nodes[k].Subs[s.length - 1]) _ (by simp [upd]) (by simp [upd]) (by simp [upd]) (by simp [upd]) (by simp [upd]) (by simp [upd]) (by simp [upd]) (by simp [upd]) (by simp [upd]) (by simp [upd]) (by first | rfl | (rw [w0, o0])) htz (by rw [hst]; simp)
   ·have eL' : (s[s.length - 1] = txt []) = False := eq_false eL
    simp (disch := omega) only [tL, q3n, am_, eL', go_sem, reduceEqDiff, ↓reduceIte]
    refine aa_.call (dH_ _ _ htz hlz _) ?_
    cases c1 : before x.Nodes[k].Subs[s.length - 1].data.toList s[s.length - 1].data.toList
    ·skip
     simp (disch := omega) only [t25, aq_, ag_, go_sem, reduceEqDiff, ↓reduceIte]
     have hbt : a3_ true s[s.length - 1] best x.Nodes[k].Subs[s.length - 1] = false := by unfold a3_; simp [eL, c1]
     rw [hbt] at hst
     exact hnx _ (best) _ (by simp [upd]) (by simp [upd]) (by simp [upd]) (by simp [upd]) (by simp [upd]) (by simp [upd]) (by simp [upd, tB]) (by simp [upd]) (by simp [upd]) (by simp [upd]) (by first | rfl | (rw [w0, o0])) hbz (by rw [hst]; simp)
    ·skip
     simp (disch := omega) only [tB, go_sem, reduceEqDiff, ↓reduceIte]
     by_cases eB : best = txt []
     ·have eB' : (best = txt []) = True := eq_true eB
      simp (disch := omega) only [t25, aq_, eB', ag_, go_sem, reduceEqDiff, ↓reduceIte]
      have hbt : a3_ true s[s.length - 1] best x.Nodes[k].Subs[s.length - 1] = true := by unfold a3_; simp [eL, c1, eB]
      rw [hbt] at hst
      exact hnx _ (x.Nodes[k].Subs[s.length - 1]) _ (by simp [upd]) (by simp [upd]) (by simp [upd]) (by simp [upd]) (by simp [upd]) (by simp [upd]) (by simp [upd]) (by simp [upd]) (by simp [upd]) (by simp [upd]) (by first | rfl | (rw [w0, o0])) htz (by rw [hst]; simp)
     ·have eB' : (best = txt []) = False := eq_false eB
      simp (disch := omega) only [tB, eB', go_sem, reduceEqDiff, ↓reduceIte]
      refine aa_.call (dH_ _ _ hbz htz _) ?_
      cases c2 : before best.data.toList x.Nodes[k].Subs[s.length - 1].data.toList
      ·skip
       simp (disch := omega) only [t25, aq_, ag_, go_sem, reduceEqDiff, ↓reduceIte]
       have hbt : a3_ true s[s.length - 1] best x.Nodes[k].Subs[s.length - 1] = false := by unfold a3_; simp [eL, c1, eB, c2]
       rw [hbt] at hst
       exact hnx _ (best) _ (by simp [upd]) (by simp [upd]) (by simp [upd]) (by simp [upd]) (by simp [upd]) (by simp [upd]) (by simp [upd, tB]) (by simp [upd]) (by simp [upd]) (by simp [upd]) (by first | rfl | (rw [w0, o0])) hbz (by rw [hst]; simp)
      ·skip
       simp (disch := omega) only [t25, aq_, ag_, go_sem, reduceEqDiff, ↓reduceIte]
       have hbt : a3_ true s[s.length - 1] best x.Nodes[k].Subs[s.length - 1] = true := by unfold a3_; simp [eL, c1, eB, c2]
       rw [hbt] at hst
       exact hnx _ (x.Nodes[k].Subs[s.length - 1]) _ (by simp [upd]) (by simp [upd]) (by simp [upd]) (by simp [upd]) (by simp [upd]) (by simp [upd]) (by simp [upd]) (by simp [upd]) (by simp [upd]) (by simp [upd]) (by first | rfl | (rw [w0, o0])) htz (by rw [hst]; simp)
 ·simp (disch := omega) only [t1, tB, t23, t24, t25, hlt, ag_, go_sem, reduceEqDiff, Nat.reduceAdd, ↓reduceIte]
  refine bz_ ?_
  rw [hS, take_of_length_le (by omega)]
theorem ig_ (x : ad_) (n : ByteArray) (s : List ByteArray) (back : Bool) (hx : ad_.sz x ≤ 1048576) (hs : an_ ByteArray.size s ≤ 1048576) (h0 : 0 < s.length) (h : List Row) : aa_ Tryz.prog 117 [.agg (ad_.cells x), .val (.string n), .list 0 1 (s.map am_), .val (.bool back)] h (.val (.string (fU_ x n s back))) := by
 refine aj_ mixed Tryz.func117 BS_ rfl rfl ?_ h
 have hz := ad_.sz_Nodes hx
 have hl := aA_ hz
 have hsl := aA_ hs
 have hm : ∀ a ∈ x.Nodes, ac_.sz a ≤ 1048576 := fun a ha => cq_ hz ha
 have hn1 : (s.length : Int) - 1 = ((s.length - 1 : Nat) : Int) := by omega
 have hlast : s.length - 1 < s.length := by omega
 have hlz := e0_ hs (getElem_mem hlast)
 have hO : fU_ x n s back = x.Nodes.foldl (fC_ n s back s[s.length - 1]) (txt []) := by unfold fU_; rw [getD_eq_getElem?_getD, getElem?_eq_getElem hlast, Option.getD_some]
 rw [hO]
 simp (disch := omega) only [xD_, Ad_, ad_.cells, hn1, aq_, am_, go_sem, reduceEqDiff, ↓reduceIte]
 refine aP_ (fun m t h => ∃ (k : Nat) (best : ByteArray), t 4 = .ptr 0 1 0 0 ∧ t 1 = .val (.string n) ∧ t 2 = .list 0 1 (s.map am_) ∧ t 3 = .val (.bool back) ∧ t 9 = .val (.int .i64 s.length) ∧ t 10 = .val (.string s[s.length - 1]) ∧ t 11 = .val (.string best) ∧ t 12 = .val (.int .i64 k) ∧ h[0]? = some ⟨41, 1, [[.list 0 3 (x.Nodes.map ac_.cells)]]⟩ ∧ m = x.Nodes.length - k ∧ k ≤ x.Nodes.length ∧ best.size ≤ 1048576 ∧ best = (x.Nodes.take k).foldl (fC_ n s back s[s.length - 1]) (txt [])) x.Nodes.length ⟨0, txt [], rfl, rfl, rfl, rfl, rfl, rfl, rfl, rfl, rfl, rfl, Nat.zero_le _, by simp [cf_], rfl⟩ ?_
 rintro J hJ m t h ⟨k, best, t4, t1, t2, t3, t9, tL, tB, t12, o0, rfl, hk, hbz, hS⟩
 have w0 := fun l => as_ (l := l) o0
 by_cases hlt : k < x.Nodes.length
 ·have hb := hm _ (getElem_mem hlt)
  have hbs := aA_ (ac_.sz_Subs hb)
  have hnx : ∀ (t' : Nat → AV) (b' : ByteArray) (h' : List Row), t' 4 = t 4 → t' 1 = t 1 → t' 2 = t 2 → t' 3 = t 3 → t' 9 = t 9 → t' 10 = t 10 → t' 11 = .val (.string b') → t' 12 = .val (.int .i64 (k + 1 : Nat)) → h'[0]? = h[0]? → b'.size ≤ 1048576 → b' = fC_ n s back s[s.length - 1] best x.Nodes[k] → ∃ m, m < x.Nodes.length - k ∧ J m t' h' :=
   fun t' b' h' e4 e1 e2 e3 e9 eL eB e12 e0 ez ec => ⟨x.Nodes.length - (k + 1), by omega, hJ _ _ _ ⟨k + 1, b', e4.trans t4, e1.trans t1, e2.trans t2, e3.trans t3, e9.trans t9, eL.trans tL, eB, e12, e0.trans o0, rfl, by omega, ez, by rw [ec, jG_ _ _ _ hlt, ← hS]⟩⟩
  have hmiss : dR_ n s x.Nodes[k] = false → ∀ (t' : Nat → AV) (h' : List Row), t' 4 = t 4 → t' 1 = t 1 → t' 2 = t 2 → t' 3 = t 3 → t' 9 = t 9 → t' 10 = t 10 → t' 11 = .val (.string best) → t' 12 = .val (.int .i64 (k + 1 : Nat)) → h'[0]? = h[0]? → ∃ m, m < x.Nodes.length - k ∧ J m t' h' :=
   fun q t' h' e4 e1 e2 e3 e9 eL eB e12 e0 => hnx t' best h' e4 e1 e2 e3 e9 eL eB e12 e0 hbz (no_ q).symm
  by_cases q1 : x.Nodes[k].Name = n
  case neg =>
   have q1' : (x.Nodes[k].Name = n) = False := eq_false q1
   simp (disch := omega) only [t4, t1, t3, t9, tB, t12, o0, q1', hlt, ac_.cells, ag_, go_sem, reduceEqDiff, Nat.reduceAdd, ↓reduceIte]
   exact hmiss (by simp [dR_, q1]) _ _ (by simp [upd]) (by simp [upd]) (by simp [upd]) (by simp [upd]) (by simp [upd]) (by simp [upd]) (by simp [upd, tB]) (by simp [upd]) (by first | rfl | (rw [w0, o0]))
  have q1' : (x.Nodes[k].Name = n) = True := eq_true q1
  by_cases q2 : s.length ≤ x.Nodes[k].Subs.length
  case neg =>
   have q2' : ((x.Nodes[k].Subs.length : Int) < (s.length : Int)) = True := eq_true (by omega)
   simp (disch := omega) only [t4, t1, t3, t9, tB, t12, o0, q1', q2', hlt, ac_.cells, ag_, go_sem, reduceEqDiff, Nat.reduceAdd, ↓reduceIte]
   exact hmiss (by simp [dR_, q2]) _ _ (by simp [upd]) (by simp [upd]) (by simp [upd]) (by simp [upd]) (by simp [upd]) (by simp [upd]) (by simp [upd, tB]) (by simp [upd]) (by first | rfl | (rw [w0, o0]))
  have q2' : ((x.Nodes[k].Subs.length : Int) < (s.length : Int)) = False := eq_false (by omega)
  have q2n : s.length - 1 ≤ x.Nodes[k].Subs.length := by omega
  have q2l : s.length - 1 < x.Nodes[k].Subs.length := by omega
  have q2s : s.length - 1 ≤ s.length := by omega
  have htz := e0_ (ac_.sz_Subs hb) (getElem_mem q2l)
  simp (disch := omega) only [t4, t1, t2, t3, t9, tB, t12, o0, q1', q2', q2s, hn1, hlt, bN_, fj_, aq_, ac_.cells, ag_, go_sem, reduceEqDiff, Nat.reduceAdd, ↓reduceIte]
  refine aa_.q (fJ_ x.Nodes[k].Subs (s.take (s.length - 1)) hbs _) ?_
  by_cases q3 : br_ (x.Nodes[k].Subs.take (s.length - 1)) (s.take (s.length - 1)) = true
  case neg =>
   have q3' : br_ (x.Nodes[k].Subs.take (s.length - 1)) (s.take (s.length - 1)) = false := by simpa using q3
   have q3n : cX_ (s.take (s.length - 1)) x.Nodes[k].Subs = false := by rw [na_ q2n]; exact q3'
   simp (disch := omega) only [q3n, go_sem]
   exact hmiss (by simp [dR_, q3']) _ _ (by simp [upd]) (by simp [upd]) (by simp [upd]) (by simp [upd]) (by simp [upd]) (by simp [upd]) (by simp [upd, tB]) (by simp [upd]) (by first | rfl | (rw [w0, o0]))
  have hhit : dR_ n s x.Nodes[k] = true := by simp [dR_, q1, q2, q3]
  have hst := oq_ (back := back) (last := s[s.length - 1]) (best := best) hhit q2l
  have q3n : cX_ (s.take (s.length - 1)) x.Nodes[k].Subs = true := by rw [na_ q2n]; exact q3
  clear hmiss
  cases back
  ·by_cases eL : s[s.length - 1] = txt []
   ·have eL' : (s[s.length - 1] = txt []) = True := eq_true eL
    simp (disch := omega) only [t3, tL, tB, q3n, am_, eL', ag_, go_sem, reduceEqDiff, ↓reduceIte]
    by_cases eB : best = txt []
    ·have eB' : (best = txt []) = True := eq_true eB
     simp (disch := omega) only [t12, aq_, eB', ag_, go_sem, reduceEqDiff, ↓reduceIte]
     have hbt : a3_ false s[s.length - 1] best x.Nodes[k].Subs[s.length - 1] = true := by unfold a3_; simp [eL, eB]
     rw [hbt] at hst
     exact hnx _ (x.Nodes[k].Subs[s.length - 1]) _ (by simp [upd]) (by simp [upd]) (by simp [upd]) (by simp [upd]) (by simp [upd]) (by simp [upd]) (by simp [upd]) (by simp [upd]) (by first | rfl | (rw [w0, o0])) htz (by rw [hst]; simp)
    ·have eB' : (best = txt []) = False := eq_false eB
     simp (disch := omega) only [tB, eB', go_sem, reduceEqDiff, ↓reduceIte]
     refine aa_.call (dD_ _ _ htz hbz _) ?_
     cases c2 : before x.Nodes[k].Subs[s.length - 1].data.toList best.data.toList
     ·skip
      simp (disch := omega) only [t12, aq_, ag_, go_sem, reduceEqDiff, ↓reduceIte]
      have hbt : a3_ false s[s.length - 1] best x.Nodes[k].Subs[s.length - 1] = false := by unfold a3_; simp [eL, eB, c2]
      rw [hbt] at hst
      exact hnx _ (best) _ (by simp [upd]) (by simp [upd]) (by simp [upd]) (by simp [upd]) (by simp [upd]) (by simp [upd]) (by simp [upd, tB]) (by simp [upd]) (by first | rfl | (rw [w0, o0])) hbz (by rw [hst]; simp)
     ·skip
      simp (disch := omega) only [t12, aq_, ag_, go_sem, reduceEqDiff, ↓reduceIte]
      have hbt : a3_ false s[s.length - 1] best x.Nodes[k].Subs[s.length - 1] = true := by unfold a3_; simp [eL, eB, c2]
      rw [hbt] at hst
      exact hnx _ (x.Nodes[k].Subs[s.length - 1]) _ (by simp [upd]) (by simp [upd]) (by simp [upd]) (by simp [upd]) (by simp [upd]) (by simp [upd]) (by simp [upd]) (by simp [upd]) (by first | rfl | (rw [w0, o0])) htz (by rw [hst]; simp)
   ·have eL' : (s[s.length - 1] = txt []) = False := eq_false eL
    simp (disch := omega) only [t3, tL, q3n, am_, eL', ag_, go_sem, reduceEqDiff, ↓reduceIte]
    refine aa_.call (dD_ _ _ hlz htz _) ?_
    cases c1 : before s[s.length - 1].data.toList x.Nodes[k].Subs[s.length - 1].data.toList
    ·skip
     simp (disch := omega) only [t12, aq_, ag_, go_sem, reduceEqDiff, ↓reduceIte]
     have hbt : a3_ false s[s.length - 1] best x.Nodes[k].Subs[s.length - 1] = false := by unfold a3_; simp [eL, c1]
     rw [hbt] at hst
     exact hnx _ (best) _ (by simp [upd]) (by simp [upd]) (by simp [upd]) (by simp [upd]) (by simp [upd]) (by simp [upd]) (by simp [upd, tB]) (by simp [upd]) (by first | rfl | (rw [w0, o0])) hbz (by rw [hst]; simp)
    ·skip
     simp (disch := omega) only [tB, go_sem, reduceEqDiff, ↓reduceIte]
     by_cases eB : best = txt []
     ·have eB' : (best = txt []) = True := eq_true eB
      simp (disch := omega) only [t12, aq_, eB', ag_, go_sem, reduceEqDiff, ↓reduceIte]
      have hbt : a3_ false s[s.length - 1] best x.Nodes[k].Subs[s.length - 1] = true := by unfold a3_; simp [eL, c1, eB]
      rw [hbt] at hst
      exact hnx _ (x.Nodes[k].Subs[s.length - 1]) _ (by simp [upd]) (by simp [upd]) (by simp [upd]) (by simp [upd]) (by simp [upd]) (by simp [upd]) (by simp [upd]) (by simp [upd]) (by first | rfl | (rw [w0, o0])) htz (by rw [hst]; simp)
     ·have eB' : (best = txt []) = False := eq_false eB
      simp (disch := omega) only [tB, eB', go_sem, reduceEqDiff, ↓reduceIte]
      refine aa_.call (dD_ _ _ htz hbz _) ?_
      cases c2 : before x.Nodes[k].Subs[s.length - 1].data.toList best.data.toList
      ·skip
       simp (disch := omega) only [t12, aq_, ag_, go_sem, reduceEqDiff, ↓reduceIte]
       have hbt : a3_ false s[s.length - 1] best x.Nodes[k].Subs[s.length - 1] = false := by unfold a3_; simp [eL, c1, eB, c2]
       rw [hbt] at hst
       exact hnx _ (best) _ (by simp [upd]) (by simp [upd]) (by simp [upd]) (by simp [upd]) (by simp [upd]) (by simp [upd]) (by simp [upd, tB]) (by simp [upd]) (by first | rfl | (rw [w0, o0])) hbz (by rw [hst]; simp)
      ·skip
       simp (disch := omega) only [t12, aq_, ag_, go_sem, reduceEqDiff, ↓reduceIte]
       have hbt : a3_ false s[s.length - 1] best x.Nodes[k].Subs[s.length - 1] = true := by unfold a3_; simp [eL, c1, eB, c2]
       rw [hbt] at hst
       exact hnx _ (x.Nodes[k].Subs[s.length - 1]) _ (by simp [upd]) (by simp [upd]) (by simp [upd]) (by simp [upd]) (by simp [upd]) (by simp [upd]) (by simp [upd]) (by simp [upd]) (by first | rfl | (rw [w0, o0])) htz (by rw [hst]; simp)
  ·by_cases eL : s[s.length - 1] = txt []
   ·have eL' : (s[s.length - 1] = txt []) = True := eq_true eL
    simp (disch := omega) only [tL, tB, q3n, am_, eL', go_sem, reduceEqDiff, ↓reduceIte]
    by_cases eB : best = txt []
    ·have eB' : (best = txt []) = True := eq_true eB
     simp (disch := omega) only [t3, t12, aq_, eB', ag_, go_sem, reduceEqDiff, ↓reduceIte]
     have hbt : a3_ true s[s.length - 1] best x.Nodes[k].Subs[s.length - 1] = true := by unfold a3_; simp [eL, eB]
     rw [hbt] at hst
     exact hnx _ (x.Nodes[k].Subs[s.length - 1]) _ (by simp [upd]) (by simp [upd]) (by simp [upd]) (by simp [upd]) (by simp [upd]) (by simp [upd]) (by simp [upd]) (by simp [upd]) (by first | rfl | (rw [w0, o0])) htz (by rw [hst]; simp)
    ·have eB' : (best = txt []) = False := eq_false eB
     simp (disch := omega) only [tB, eB', go_sem, reduceEqDiff, ↓reduceIte]
     refine aa_.call (dD_ _ _ hbz htz _) ?_
     cases c2 : before best.data.toList x.Nodes[k].Subs[s.length - 1].data.toList
     ·skip
      simp (disch := omega) only [t3, t12, aq_, ag_, go_sem, reduceEqDiff, ↓reduceIte]
      have hbt : a3_ true s[s.length - 1] best x.Nodes[k].Subs[s.length - 1] = false := by unfold a3_; simp [eL, eB, c2]
      rw [hbt] at hst
      exact hnx _ (best) _ (by simp [upd]) (by simp [upd]) (by simp [upd]) (by simp [upd]) (by simp [upd]) (by simp [upd]) (by simp [upd, tB]) (by simp [upd]) (by first | rfl | (rw [w0, o0])) hbz (by rw [hst]; simp)
     ·skip
      simp (disch := omega) only [t3, t12, aq_, ag_, go_sem, reduceEqDiff, ↓reduceIte]
      have hbt : a3_ true s[s.length - 1] best x.Nodes[k].Subs[s.length - 1] = true := by unfold a3_; simp [eL, eB, c2]
      rw [hbt] at hst
      exact hnx _ (x.Nodes[k].Subs[s.length - 1]) _ (by simp [upd]) (by simp [upd]) (by simp [upd]) (by simp [upd]) (by simp [upd]) (by simp [upd]) (by simp [upd]) (by simp [upd]) (by first | rfl | (rw [w0, o0])) htz (by rw [hst]; simp)
   ·have eL' : (s[s.length - 1] = txt []) = False := eq_false eL
    simp (disch := omega) only [tL, q3n, am_, eL', go_sem, reduceEqDiff, ↓reduceIte]
    refine aa_.call (dD_ _ _ htz hlz _) ?_
    cases c1 : before x.Nodes[k].Subs[s.length - 1].data.toList s[s.length - 1].data.toList
    ·skip
     simp (disch := omega) only [t3, t12, aq_, ag_, go_sem, reduceEqDiff, ↓reduceIte]
     have hbt : a3_ true s[s.length - 1] best x.Nodes[k].Subs[s.length - 1] = false := by unfold a3_; simp [eL, c1]
     rw [hbt] at hst
     exact hnx _ (best) _ (by simp [upd]) (by simp [upd]) (by simp [upd]) (by simp [upd]) (by simp [upd]) (by simp [upd]) (by simp [upd, tB]) (by simp [upd]) (by first | rfl | (rw [w0, o0])) hbz (by rw [hst]; simp)
    ·skip
     simp (disch := omega) only [tB, go_sem, reduceEqDiff, ↓reduceIte]
     by_cases eB : best = txt []
     ·have eB' : (best = txt []) = True := eq_true eB
      simp (disch := omega) only [t3, t12, aq_, eB', ag_, go_sem, reduceEqDiff, ↓reduceIte]
      have hbt : a3_ true s[s.length - 1] best x.Nodes[k].Subs[s.length - 1] = true := by unfold a3_; simp [eL, c1, eB]
      rw [hbt] at hst
      exact hnx _ (x.Nodes[k].Subs[s.length - 1]) _ (by simp [upd]) (by simp [upd]) (by simp [upd]) (by simp [upd]) (by simp [upd]) (by simp [upd]) (by simp [upd]) (by simp [upd]) (by first | rfl | (rw [w0, o0])) htz (by rw [hst]; simp)
     ·have eB' : (best = txt []) = False := eq_false eB
      simp (disch := omega) only [tB, eB', go_sem, reduceEqDiff, ↓reduceIte]
      refine aa_.call (dD_ _ _ hbz htz _) ?_
      cases c2 : before best.data.toList x.Nodes[k].Subs[s.length - 1].data.toList
      ·skip
       simp (disch := omega) only [t3, t12, aq_, ag_, go_sem, reduceEqDiff, ↓reduceIte]
       have hbt : a3_ true s[s.length - 1] best x.Nodes[k].Subs[s.length - 1] = false := by unfold a3_; simp [eL, c1, eB, c2]
       rw [hbt] at hst
       exact hnx _ (best) _ (by simp [upd]) (by simp [upd]) (by simp [upd]) (by simp [upd]) (by simp [upd]) (by simp [upd]) (by simp [upd, tB]) (by simp [upd]) (by first | rfl | (rw [w0, o0])) hbz (by rw [hst]; simp)
      ·skip
       simp (disch := omega) only [t3, t12, aq_, ag_, go_sem, reduceEqDiff, ↓reduceIte]
       have hbt : a3_ true s[s.length - 1] best x.Nodes[k].Subs[s.length - 1] = true := by unfold a3_; simp [eL, c1, eB, c2]
       rw [hbt] at hst
       exact hnx _ (x.Nodes[k].Subs[s.length - 1]) _ (by simp [upd]) (by simp [upd]) (by simp [upd]) (by simp [upd]) (by simp [upd]) (by simp [upd]) (by simp [upd]) (by simp [upd]) (by first | rfl | (rw [w0, o0])) htz (by rw [hst]; simp)
 ·simp (disch := omega) only [t4, t1, tB, t12, o0, hlt, ag_, go_sem, reduceEqDiff, Nat.reduceAdd, ↓reduceIte]
  refine bz_ ?_
  rw [hS, take_of_length_le (by omega)]
def BE_ : LC :=
 .q [.o [.nl 2], .q [.o [.m 3 0, .s 4 (.isNil false (.tmp 3))], .k 4 (.q [.o [.nl 2], .ghost .ret]) .skip], .o [.s 5 (.buildSlice 9 1 (.string ⟨#[]⟩) 0 []), .m 6 0, .ap 7 9 1 16 5 6, .m 2 7], .ghost .ret]
def xU_ : LF := ⟨1, 8, BE_, [.tmp 2]⟩
theorem CF_ : au_ Tryz.prog Tryz.f102 xU_ := ah_
theorem b5_ (xs : List ByteArray) (hx : xs.length ≤ 1048576) : aQ_ Tryz.prog 102 [.list 0 1 (xs.map am_)] (.list 0 1 (xs.map am_)) (fun a => ∃ l, a = .own l xs.length) := by
 refine bM_ mixed Tryz.func102 CF_ rfl (fun h0 => ?_)
 have hv : ∀ e ∈ xs.map am_, ∀ c ∈ e, ∃ v, c = AV.val v := by
  intro e he c hc
  obtain ⟨x, _, q⟩ := mem_map.1 he; subst q
  simp only [am_, mem_cons, not_mem_nil, or_false] at hc
  first | (rcases hc with rfl) | (rcases hc with rfl | rfl) | (rcases hc with rfl | rfl | rfl)
  all_goals exact ⟨_, rfl⟩
 have hcell : ∀ e ∈ xs.map am_, e.all AV.cell = true := by
  intro e he
  obtain ⟨x, _, q⟩ := mem_map.1 he; subst q; rfl
 simp (disch := omega) only [xU_, BE_, go_sem, reduceCtorEq, ↓reduceIte]
 intro b hb
 cases b
 ·simp (disch := omega) only [bne_self_eq_false, go_sem, Nat.reduceEqDiff, reduceCtorEq, ↓reduceIte]
  refine ⟨by omega, by omega, hcell, ?_⟩
  try simp (disch := omega) only [go_sem, Nat.reduceEqDiff, Nat.reduceAdd, Nat.reduceLeDiff, reduceCtorEq, Int.reduceLT, Int.reduceLE, Int.reduceNeg, Int.reduceSub, Int.reduceAdd, Int.reduceToNat, ↓reduceIte]
  refine mp_ _ _ vI_ ?_
  simp (disch := omega) only [go_sem, ↓reduceIte]
  exact ⟨⟨aD_.app _ _, (ay_.mkown (lo := h0.length + 1) (hi := h0.length + 1) (bn_.ofVals _ _ _ _ hv) (by rw [b4_]; rfl) (by simp) (Nat.le_refl _) (Nat.lt_succ_self _) (Nat.le_refl _)).widen (Nat.le_refl _) (by simp)⟩, _, rfl⟩
 ·have hx0 : xs = [] := by simpa using hb rfl
  subst hx0
  simp (disch := omega) only [Bool.bne_false, map_nil, go_sem]
  refine mp_ _ _ (tG_ 2 9 1 rfl) ?_
  simp (disch := omega) only [go_sem, ↓reduceIte]
  exact ⟨⟨aD_.app _ _, (ay_.mkown (lo := h0.length + 1) (hi := h0.length + 1) (bn_.nil _ _ _) (by rw [b4_]; rfl) (by simp) (Nat.le_refl _) (Nat.lt_succ_self _) (Nat.le_refl _)).widen (Nat.le_refl _) (by simp)⟩, _, rfl⟩
theorem rX_ {H : List Row} {l : Nat} {E : Tag} {xs : List ByteArray} (hl : H[l]? = some ⟨E, 1, xs.map am_⟩) : ay_ l (l + 1) H (.own l xs.length) (.list 0 1 (xs.map am_)) :=
 ay_.mkown (lo := l + 1) (hi := l + 1) (bn_.ofVals _ _ _ _ (by
  intro e he c hc
  obtain ⟨x, _, q⟩ := mem_map.1 he; subst q
  simp only [am_, mem_singleton] at hc
  exact ⟨_, hc⟩)) hl (by simp) (Nat.le_refl _) (Nat.lt_succ_self _) (Nat.le_refl _)
theorem or_ (xs : List ByteArray) : ∀ e ∈ xs.map am_, e.all AV.cell = true := by
 intro e he
 obtain ⟨x, _, q⟩ := mem_map.1 he; subst q; rfl
def Ce_ : LC :=
 .q [.o [.nl 2], .o [.s 3 (.buildSlice 9 1 (.string ⟨#[]⟩) 0 []), .m 4 0, .ap 5 9 1 16 3 4, .m 2 5], .ret]
def xE_ : LF := ⟨1, 6, Ce_, [.tmp 2]⟩
theorem Bz_ : au_ prog Tryz.f118 xE_ := ah_
def c86 : LC :=
 .q [.o [.nl 2], .o [.s 3 (.buildSlice 9 1 (.string ⟨#[]⟩) 0 []), .m 4 0, .ap 5 9 1 16 3 4, .m 2 5], .ret]
def zE_ : LF := ⟨1, 6, c86, [.tmp 2]⟩
theorem C6_ : au_ prog Tryz.f86 zE_ := ah_
theorem hn_ (xs : List ByteArray) (hx : xs.length ≤ 1048576) : aQ_ prog 118 [.list 0 1 (xs.map am_)] (.list 0 1 (xs.map am_)) (fun a => ∃ l, a = .own l xs.length) := by
 refine bM_ mixed Tryz.func118 Bz_ rfl (fun h0 => ?_)
 simp (disch := omega) only [xE_, Ce_, go_sem, reduceEqDiff, reduceCtorEq, ↓reduceIte]
 exact ⟨by omega, by omega, or_ xs, ⟨aD_.app _ _, (rX_ (by rw [b4_]; rfl)).widen (Nat.le_refl _) (by simp)⟩, _, rfl⟩
theorem d9_ (xs : List ByteArray) (hx : xs.length ≤ 1048576) : aQ_ prog 86 [.list 0 1 (xs.map am_)] (.list 0 1 (xs.map am_)) (fun a => ∃ l, a = .own l xs.length) := by
 refine bM_ mixed Tryz.func86 C6_ rfl (fun h0 => ?_)
 simp (disch := omega) only [zE_, c86, go_sem, reduceEqDiff, reduceCtorEq, ↓reduceIte]
 exact ⟨by omega, by omega, or_ xs, ⟨aD_.app _ _, (rX_ (by rw [b4_]; rfl)).widen (Nat.le_refl _) (by simp)⟩, _, rfl⟩
def dP_ (n : ByteArray) (s : List ByteArray) (a : ac_) : Bool := decide (a.Name = n) && ch_ (bss s) (bss a.Subs)
def cQ_ (n : ByteArray) (s : List ByteArray) : List ac_ → List ByteArray × Bool
 | [] => ([], false)
 | a :: r => if dP_ n s a = true then (a.Subs, true) else cQ_ n s r
def c7_ (x : ad_) (n : ByteArray) (s : List ByteArray) : List ByteArray × Bool := if (aW_ x && cP_ n s) = true then cQ_ n s x.Nodes else ([], false)
abbrev j5_ (p : List ByteArray × Bool) : AV := .tup [.list 0 1 (p.1.map am_), .val (.bool p.2)]
def A3_ : LC :=
 .q [.o [.bx 3 41 0, .nl 6, .f 7], .q [.o [.ld 10 1 3, .c1 11 43 10, .nt 12 11, .m 13 12, .gm 14 13 false 1, .gm 15 13 false 2, .g 16 13 false (.call 121 [.tmp 14, .tmp 15]), .gu 17 13 false 16, .pt 18 13 17], .k 18 (.q
 [.o [.nl 6, .f 7], .ret]) .skip], .q [.o [.fa 19 0 3, .ln 20 19, .ll 21 20, .ki 22 0], .block 0 (.loop (.q [.o [.bb 23 .lss false 22 21], .k 23 .skip (.exit 0), .block 1 (.q [.o [.ia 24 3 20 22, .ld 25 3 24, .s 9 (.alloc
 93 (.agg #[.string ⟨#[]⟩, .slice none 0 0, .string ⟨#[]⟩])), .st 3 9 25], .o [.fa 26 0 9, .ln 27 26, .m 28 1, .bb 29 .eql false 27 28, .m 30 29, .gm 31 30 true 2, .gf 32 30 true 1 9, .gn 33 30 true 32, .g 34 30 true
 (.call 169 [.tmp 31, .tmp 33]), .pf 35 30 34], .k 35 (.q [.o [.fa 36 1 9, .ln 37 36, .c1 38 102 37, .m 6 38, .t 7], .ret]) .skip]), .o [.bk 39 .add false 22 1, .m 22 39]]))], .o [.nl 6, .f 7], .ret]
def wR_ : LF := ⟨3, 40, A3_, [.tmp 6, .tmp 7]⟩
theorem CJ_ : au_ prog Tryz.f142 wR_ := ah_
def c82 : LC :=
 .q [.o [.bx 3 41 0, .nl 6, .f 7], .q [.o [.ld 9 1 3, .c1 10 29 9, .nt 11 10, .m 12 11, .gm 13 12 false 1, .gm 14 12 false 2, .g 15 12 false (.call 105 [.tmp 13, .tmp 14]), .gu 16 12 false 15, .pt 17 12 16], .k 17 (.q [.o
 [.nl 6, .f 7], .ret]) .skip], .q [.o [.ki 8 0], .block 0 (.loop (.q [.q [.o [.m 18 8, .fa 19 0 3, .ln 20 19, .ll 21 20, .bb 22 .lss false 18 21], .k 22 .skip (.exit 0)], .block 1 (.q [.o [.fa 25 0 3, .ln 26 25, .m 27 8,
 .ia 28 3 26 27, .fa 29 0 28, .ln 30 29, .m 31 1, .bb 32 .eql false 30 31, .m 33 32, .gm 34 33 true 2, .gf 35 33 true 0 3, .gn 36 33 true 35, .gm 37 33 true 8, .g 38 33 true (.indexAddr 3 (.tmp 36) (.tmp 37)), .gf 39 33
 true 1 38, .gn 40 33 true 39, .g 41 33 true (.call 106 [.tmp 34, .tmp 40]), .pf 42 33 41], .k 42 (.q [.o [.fa 43 0 3, .ln 44 43, .m 45 8, .ia 46 3 44 45, .fa 47 1 46, .ln 48 47, .c1 49 118 48, .m 6 49, .t 7], .ret])
 .skip]), .o [.m 23 8, .bk 24 .add false 23 1, .m 8 24]]))], .o [.nl 6, .f 7], .ret]
def z5_ : LF := ⟨3, 50, c82, [.tmp 6, .tmp 7]⟩
theorem D8_ : au_ prog Tryz.f82 z5_ := ah_
theorem lf_ (x : ad_) (n : ByteArray) (s : List ByteArray) (hx : ad_.sz x ≤ 1048576) (hn : n.size ≤ 1048576) (hs : an_ ByteArray.size s ≤ 1048576) : aQ_ prog 142 [.agg (ad_.cells x), .val (.string n), .list 0 1 (s.map am_)] (j5_ (c7_ x n s)) (fun a => ∃ b q, a = .tup [b, .val (.bool q)]) := by
 refine bM_ mixed Tryz.func142 CJ_ rfl (fun h0 => ?_)
 have hz := ad_.sz_Nodes hx
 have hl := aA_ hz
 have hm : ∀ a ∈ x.Nodes, ac_.sz a ≤ 1048576 := fun a ha => cq_ hz ha
 simp (disch := omega) only [wR_, A3_, ad_.cells, go_sem, reduceEqDiff, ↓reduceIte]
 refine aa_.call (gT_ x hx _) ?_
 by_cases h1 : aW_ x = true
 case neg =>
  have h1' : aW_ x = false := by simpa using h1
  have hR : c7_ x n s = ([], false) := by simp [c7_, h1']
  simp (disch := omega) only [h1', ag_, go_sem, reduceEqDiff, ↓reduceIte]
  rw [hR]
  exact ⟨⟨aD_.app _ _, ay_.pair (ay_.mknil _ _ _ 1) (by simp) _⟩, _, _, rfl⟩
 simp (disch := omega) only [h1, go_sem, reduceEqDiff, ↓reduceIte]
 refine aa_.call (fh_ _ _ hn (aA_ hs) _) ?_
 by_cases h2 : cP_ n s = true
 case neg =>
  have h2' : cP_ n s = false := by simpa using h2
  have hR : c7_ x n s = ([], false) := by simp [c7_, h2']
  simp (disch := omega) only [h2', ag_, go_sem, reduceEqDiff, ↓reduceIte]
  rw [hR]
  exact ⟨⟨aD_.app _ _, ay_.pair (ay_.mknil _ _ _ 1) (by simp) _⟩, _, _, rfl⟩
 have hR : c7_ x n s = cQ_ n s x.Nodes := by simp [c7_, h1, h2]
 rw [hR]
 simp (disch := omega) only [h2, ag_, go_sem, reduceEqDiff, ↓reduceIte]
 refine aP_ (fun m t h => ∃ k : Nat, t 3 = .ptr h0.length 1 0 0 ∧ t 1 = .val (.string n) ∧ t 2 = .list 0 1 (s.map am_) ∧ t 20 = .list 0 3 (x.Nodes.map ac_.cells) ∧ t 21 = .val (.int .i64 x.Nodes.length) ∧ t 22 = .val (.int .i64 k) ∧ aD_ h0 h ∧ h[h0.length]? = some ⟨41, 1, [[.list 0 3 (x.Nodes.map ac_.cells)]]⟩ ∧ m = x.Nodes.length - k ∧ k ≤ x.Nodes.length ∧ cQ_ n s x.Nodes = cQ_ n s (x.Nodes.drop k)) x.Nodes.length ⟨0, rfl, rfl, rfl, rfl, rfl, rfl, aD_.app _ _, by rw [b4_]; rfl, rfl, Nat.zero_le _, rfl⟩ ?_
 rintro J hJ m t h ⟨k, t3, t1, t2, t20, t21, t22, hM, o0, rfl, hk, hS⟩
 have w0 := fun l => as_ (l := l) o0
 have ml := hM.len
 by_cases hlt : k < x.Nodes.length
 ·have hb := hm _ (getElem_mem hlt)
  rw [drop_eq_getElem_cons hlt, cQ_] at hS
  have hnx : dP_ n s x.Nodes[k] = false → ∀ (t' : Nat → AV) (h' : List Row), t' 3 = t 3 → t' 1 = t 1 → t' 2 = t 2 → t' 20 = t 20 → t' 21 = t 21 → t' 22 = .val (.int .i64 (k + 1 : Nat)) → aD_ h0 h' → h'[h0.length]? = h[h0.length]? → ∃ m, m < x.Nodes.length - k ∧ J m t' h' :=
   fun q t' h' e3 e1 e2 e20 e21 e22 em e0 => ⟨x.Nodes.length - (k + 1), by omega, hJ _ _ _ ⟨k + 1, e3.trans t3, e1.trans t1, e2.trans t2, e20.trans t20, e21.trans t21, e22, em, e0.trans o0, rfl, by omega, by rw [hS, q]; rfl⟩⟩
  by_cases e : x.Nodes[k].Name = n
  case neg =>
   have e' : (x.Nodes[k].Name = n) = False := eq_false e
   simp (disch := omega) only [t1, t20, t21, t22, e', hlt, ac_.cells, ag_, go_sem, reduceEqDiff, Nat.reduceAdd, ↓reduceIte]
   exact hnx (by simp [dP_, e]) _ _ (by simp [upd]) (by simp [upd]) (by simp [upd]) (by simp [upd]) (by simp [upd]) (by simp [upd]) (by first | exact hM | exact hM.add _) (by first | rfl | (rw [w0, o0]))
  have e' : (x.Nodes[k].Name = n) = True := eq_true e
  simp (disch := omega) only [t1, t2, t20, t21, t22, e', hlt, ac_.cells, ag_, go_sem, reduceEqDiff, Nat.reduceAdd, ↓reduceIte]
  refine aa_.call (kW_ _ _ hs (ac_.sz_Subs hb) _) ?_
  cases q : ch_ (bss s) (bss x.Nodes[k].Subs)
  ·simp (disch := omega) only [t22, ag_, go_sem, reduceEqDiff, ↓reduceIte]
   exact hnx (by simp [dP_, q]) _ _ (by simp [upd]) (by simp [upd]) (by simp [upd]) (by simp [upd]) (by simp [upd]) (by simp [upd]) (by first | exact hM | exact hM.add _) (by first | rfl | (rw [w0, o0]))
  ·have hq : dP_ n s x.Nodes[k] = true := by simp [dP_, e, q]
   rw [if_pos hq] at hS
   rw [hS]
   simp (disch := omega) only [t22, ag_, go_sem, reduceEqDiff, ↓reduceIte]
   refine bk_ (b5_ x.Nodes[k].Subs (aA_ (ac_.sz_Subs hb))) (fun av H1 m1 F1 q1 => ?_)
   obtain ⟨l, rfl⟩ := q1
   simp (disch := omega) only [go_sem, reduceEqDiff, ↓reduceIte]
   have m2 := (hM.add _).trans m1
   have l1 := m1.len
   exact ⟨⟨m2, ay_.pair (F1.tree.widen (by first | omega | (simp; omega) | (simp; done)) (Nat.le_refl _)) (by have := m2.len; omega) _⟩, _, _, rfl⟩
 ·rw [drop_eq_nil_of_le (by omega), cQ_] at hS
  rw [hS]
  simp (disch := omega) only [t1, t20, t21, t22, hlt, ag_, go_sem, reduceEqDiff, Nat.reduceAdd, ↓reduceIte]
  exact ⟨⟨hM, ay_.pair (ay_.mknil _ _ _ 1) (by omega) _⟩, _, _, rfl⟩
theorem lk_ (x : ad_) (n : ByteArray) (s : List ByteArray) (hx : ad_.sz x ≤ 1048576) (hn : n.size ≤ 1048576) (hs : an_ ByteArray.size s ≤ 1048576) : aQ_ prog 82 [.agg (ad_.cells x), .val (.string n), .list 0 1 (s.map am_)] (j5_ (c7_ x n s)) (fun a => ∃ b q, a = .tup [b, .val (.bool q)]) := by
 refine bM_ mixed Tryz.func82 D8_ rfl (fun h0 => ?_)
 have hz := ad_.sz_Nodes hx
 have hl := aA_ hz
 have hm : ∀ a ∈ x.Nodes, ac_.sz a ≤ 1048576 := fun a ha => cq_ hz ha
 simp (disch := omega) only [z5_, c82, ad_.cells, go_sem, reduceEqDiff, ↓reduceIte]
 refine aa_.call (cM_ x hx _) ?_
 by_cases h1 : aW_ x = true
 case neg =>
  have h1' : aW_ x = false := by simpa using h1
  have hR : c7_ x n s = ([], false) := by simp [c7_, h1']
  simp (disch := omega) only [h1', ag_, go_sem, reduceEqDiff, ↓reduceIte]
  rw [hR]
  exact ⟨⟨aD_.app _ _, ay_.pair (ay_.mknil _ _ _ 1) (by simp) _⟩, _, _, rfl⟩
 simp (disch := omega) only [h1, go_sem, reduceEqDiff, ↓reduceIte]
 refine aa_.call (cy_ _ _ hn (aA_ hs) _) ?_
 by_cases h2 : cP_ n s = true
 case neg =>
  have h2' : cP_ n s = false := by simpa using h2
  have hR : c7_ x n s = ([], false) := by simp [c7_, h2']
  simp (disch := omega) only [h2', ag_, go_sem, reduceEqDiff, ↓reduceIte]
  rw [hR]
  exact ⟨⟨aD_.app _ _, ay_.pair (ay_.mknil _ _ _ 1) (by simp) _⟩, _, _, rfl⟩
 have hR : c7_ x n s = cQ_ n s x.Nodes := by simp [c7_, h1, h2]
 rw [hR]
 simp (disch := omega) only [h2, ag_, go_sem, reduceEqDiff, ↓reduceIte]
 refine aP_ (fun m t h => ∃ k : Nat, t 3 = .ptr h0.length 1 0 0 ∧ t 1 = .val (.string n) ∧ t 2 = .list 0 1 (s.map am_) ∧ t 8 = .val (.int .i64 k) ∧ aD_ h0 h ∧ h[h0.length]? = some ⟨41, 1, [[.list 0 3 (x.Nodes.map ac_.cells)]]⟩ ∧ m = x.Nodes.length - k ∧ k ≤ x.Nodes.length ∧ cQ_ n s x.Nodes = cQ_ n s (x.Nodes.drop k)) x.Nodes.length ⟨0, rfl, rfl, rfl, rfl, aD_.app _ _, by rw [b4_]; rfl, rfl, Nat.zero_le _, rfl⟩ ?_
 rintro J hJ m t h ⟨k, t3, t1, t2, t8, hM, o0, rfl, hk, hS⟩
 have w0 := fun l => as_ (l := l) o0
 have ml := hM.len
 by_cases hlt : k < x.Nodes.length
 ·have hb := hm _ (getElem_mem hlt)
  rw [drop_eq_getElem_cons hlt, cQ_] at hS
  have hnx : dP_ n s x.Nodes[k] = false → ∀ (t' : Nat → AV) (h' : List Row), t' 3 = t 3 → t' 1 = t 1 → t' 2 = t 2 → t' 8 = .val (.int .i64 (k + 1 : Nat)) → aD_ h0 h' → h'[h0.length]? = h[h0.length]? → ∃ m, m < x.Nodes.length - k ∧ J m t' h' :=
   fun q t' h' e3 e1 e2 e8 em e0 => ⟨x.Nodes.length - (k + 1), by omega, hJ _ _ _ ⟨k + 1, e3.trans t3, e1.trans t1, e2.trans t2, e8, em, e0.trans o0, rfl, by omega, by rw [hS, q]; rfl⟩⟩
  by_cases e : x.Nodes[k].Name = n
  case neg =>
   have e' : (x.Nodes[k].Name = n) = False := eq_false e
   simp (disch := omega) only [t3, t1, t8, o0, e', hlt, ac_.cells, ag_, go_sem, reduceEqDiff, Nat.reduceAdd, reduceLeDiff, ↓reduceIte]
   exact hnx (by simp [dP_, e]) _ _ (by simp [upd]) (by simp [upd]) (by simp [upd]) (by simp [upd]) (by first | exact hM | exact hM.add _) (by first | rfl | (rw [w0, o0]))
  have e' : (x.Nodes[k].Name = n) = True := eq_true e
  simp (disch := omega) only [t3, t1, t2, t8, o0, e', hlt, ac_.cells, ag_, go_sem, reduceEqDiff, Nat.reduceAdd, reduceLeDiff, ↓reduceIte]
  refine aa_.call (hl_ _ _ hs (ac_.sz_Subs hb) _) ?_
  cases q : ch_ (bss s) (bss x.Nodes[k].Subs)
  ·simp (disch := omega) only [t3, t8, o0, ac_.cells, ag_, go_sem, reduceEqDiff, Nat.reduceAdd, reduceLeDiff, ↓reduceIte]
   exact hnx (by simp [dP_, q]) _ _ (by simp [upd]) (by simp [upd]) (by simp [upd]) (by simp [upd]) (by first | exact hM | exact hM.add _) (by first | rfl | (rw [w0, o0]))
  ·have hq : dP_ n s x.Nodes[k] = true := by simp [dP_, e, q]
   rw [if_pos hq] at hS
   rw [hS]
   simp (disch := omega) only [t3, t8, o0, ac_.cells, ag_, go_sem, reduceEqDiff, Nat.reduceAdd, reduceLeDiff, ↓reduceIte]
   refine bk_ (hn_ x.Nodes[k].Subs (aA_ (ac_.sz_Subs hb))) (fun av H1 m1 F1 q1 => ?_)
   obtain ⟨l, rfl⟩ := q1
   simp (disch := omega) only [go_sem, reduceEqDiff, ↓reduceIte]
   have m2 := hM.trans m1
   have l1 := m1.len
   exact ⟨⟨m2, ay_.pair (F1.tree.widen (by first | omega | (simp; omega) | (simp; done)) (Nat.le_refl _)) (by have := m2.len; omega) _⟩, _, _, rfl⟩
 ·rw [drop_eq_nil_of_le (by omega), cQ_] at hS
  rw [hS]
  simp (disch := omega) only [t3, t1, t8, o0, hlt, ag_, go_sem, reduceEqDiff, ↓reduceIte]
  exact ⟨⟨hM, ay_.pair (ay_.mknil _ _ _ 1) (by omega) _⟩, _, _, rfl⟩
def m2_ (P : Program) (f : FuncId) (args : List AV) (h : List Row) (r : AV) : Prop := ∀ K : AV → List Row → Prop, (∀ H', aD_ h H' → K r H') → callSem P f args h K
theorem aa_.quiet {P : Program} {f : FuncId} {args : List AV} {h : List Row} {r : AV} (hc : aa_ P f args h r) : m2_ P f args h r := fun K hk => hc K (hk h (aD_.refl h))
theorem lP_ {α : Type} {ts : List α} {k m : Nat} (h1 : k < m) (h2 : k < ts.length) : ts[k] ∈ ts.take m := by
 have h3 : k < (ts.take m).length := by rw [length_take]; omega
 have e : (ts.take m)[k] = ts[k] := getElem_take
 rw [← e]; exact getElem_mem h3
def cR_ (ns : List ac_) (n : ByteArray) (s : List ByteArray) : List ac_ := ns.filter fun a => !inN n s a
theorem sg_ {ns : List ac_} {n : ByteArray} {s : List ByteArray} {k : Nat} (hlt : k < ns.length) (h : inN n s ns[k] = false) : cR_ (ns.take (k + 1)) n s = cR_ (ns.take k) n s ++ [ns[k]] := by
 unfold cR_; rw [take_succ_eq_append_getElem hlt, filter_append]; simp [h]
theorem sm_ {ns : List ac_} {n : ByteArray} {s : List ByteArray} {k : Nat} (hlt : k < ns.length) (h : inN n s ns[k] = true) : cR_ (ns.take (k + 1)) n s = cR_ (ns.take k) n s := by
 unfold cR_; rw [take_succ_eq_append_getElem hlt, filter_append]; simp [h]
theorem tw_ (ns : List ac_) (n : ByteArray) (s : List ByteArray) (k : Nat) : (cR_ (ns.take k) n s).length ≤ k := by
 unfold cR_
 exact Nat.le_trans (length_filter_le _ _) (by simp; omega)
theorem k8_ {α : Type} (f : α → Nat) (p : α → Bool) : ∀ xs : List α, b1_ f (xs.filter p) ≤ b1_ f xs
 | [] => Nat.le_refl _
 | x :: xs => by
  have ih := k8_ f p xs
  by_cases h : p x = true
  ·rw [filter_cons_of_pos h]; simp only [b1_]; omega
  ·rw [filter_cons_of_neg h]; simp only [b1_]; omega
theorem vH_ (x : ad_) (n : ByteArray) (s : List ByteArray) : ad_.sz ⟨cR_ x.Nodes n s⟩ ≤ ad_.sz x := by
 have h1 := k8_ ac_.sz (fun a => !inN n s a) x.Nodes
 have h2 := length_filter_le (fun a => !inN n s a) x.Nodes
 have e : ∀ y : ad_, ad_.sz y = an_ ac_.sz y.Nodes := fun _ => rfl
 simp only [e, an_, cR_]
 omega
theorem oJ_ (ns : List ac_) : ∀ e ∈ ns.map ac_.cells, e.all AV.flat = true := by
 intro e he
 obtain ⟨x, _, q⟩ := mem_map.1 he; subst q; rfl
def zN_ : LC :=
 .q [.o [.nl 2], .o [.s 5 (.buildSlice 93 3 (.agg #[.string ⟨#[]⟩, .slice none 0 0, .string ⟨#[]⟩]) 0 []), .m 3 5], .q [.o [.ki 4 0], .block 0 (.loop (.q [.q [.o [.m 6 4, .m 7 0, .ll 8 7, .bb 9 .lss false 6 8], .k 9 .skip
 (.exit 0)], .block 1 (.gops [.m 12 3, .m 13 0, .m 14 4, .ia 15 3 13 14, .fa 16 0 15, .ln 17 16, .m 18 0, .m 19 4, .ia 20 3 18 19, .fa 21 1 20, .ln 22 21, .m 24 0, .m 25 4, .ia 26 3 24 25, .fa 27 2 26, .ln 28 27] [(.c1 23
 118 22, [.m 12 3, .m 13 0, .m 14 4, .ia 15 3 13 14, .fa 16 0 15, .ln 17 16, .m 24 0, .m 25 4, .ia 26 3 24 25, .fa 27 2 26, .ln 28 27]), (.s 29 (.build (.agg #[.string ⟨#[]⟩, .slice none 0 0, .string ⟨#[]⟩]) [(0, 1), (1,
 1), (2, 1)] [(0, .tmp 17), (1, .tmp 23), (2, .tmp 28)]), [.m 12 3]), (.s 30 (.buildSlice 93 3 (.agg #[.string ⟨#[]⟩, .slice none 0 0, .string ⟨#[]⟩]) 1 [(0, .tmp 29)]), [.m 12 3]), (.ap 31 93 3 56 12 30, []), (.m 3 31,
 [])]), .o [.m 10 4, .bk 11 .add false 10 1, .m 4 11]]))], .o [.m 32 3, .m 2 32], .ret]
def wV_ : LF := ⟨1, 33, zN_, [.tmp 2]⟩
theorem BG_ : au_ Tryz.prog Tryz.f112 wV_ := ah_
theorem hI_ (ns : List ac_) (hn : an_ ac_.sz ns ≤ 1048576) : aQ_ Tryz.prog 112 [.list 0 3 (ns.map ac_.cells)] (.list 0 3 (ns.map ac_.cells)) (fun a => ∃ l, a = .own l ns.length) := by
 refine bM_ mixed Tryz.func112 BG_ rfl (fun h0 => ?_)
 have hl := aA_ hn
 have hm : ∀ e ∈ ns, ac_.sz e ≤ 1048576 := fun e he => cq_ hn he
 simp (disch := omega) only [wV_, zN_, go_sem, ↓reduceIte]
 refine aP_ (fun n t h => ∃ (k : Nat) (done : List (List AV)), t 0 = .list 0 3 (ns.map ac_.cells) ∧ t 3 = .own h0.length k ∧ t 4 = .val (.int .i64 k) ∧ aD_ h0 h ∧ cb_ h0.length h 93 3 done ((ns.take k).map ac_.cells) ∧ done.length = k ∧ n = ns.length - k ∧ k ≤ ns.length) ns.length ?_ ?_
 ·exact ⟨0, [], rfl, rfl, rfl, aD_.app _ _, cb_.zero (by rw [b4_]; rfl), rfl, rfl, Nat.zero_le _⟩
 rintro J hJ n t h ⟨k, done, t0, t3, t4, hM, hG, hd, rfl, hk⟩
 have o3 := hG.row
 have ml := hM.len
 have gl := hG.lt
 by_cases hlt : k < ns.length
 ·have hsl := aA_ (ac_.sz_Subs (hm _ (getElem_mem hlt)))
  simp (disch := (first | omega | (simp only [ls_, la_, lc_, ln_]; first | done | omega))) only [go_sem, reduceEqDiff, Nat.reduceAdd, reduceLeDiff, reduceCtorEq, ↓reduceIte, t0, t3, t4, hlt, ac_.cells]
  refine bk_ (hn_ ns[k].Subs hsl) (fun av H1 m1 F1 q1 => ?_)
  obtain ⟨l, rfl⟩ := q1
  have p3 := m1.at o3
  have l1 := m1.len
  simp (disch := (first | omega | (simp only [ls_, la_, lc_, ln_]; first | done | omega))) only [aE_, aU_, go_sem, reduceEqDiff, Nat.reduceAdd, reduceLeDiff, reduceCtorEq, ↓reduceIte, t0, t3, t4, p3, hd, ac_.cells, bE_, Option.map_some]
  repeat (refine And.intro (by first | omega | (exact strs_cellv _) | assumption | (simp; done)) ?_)
  refine ⟨ns.length - (k + 1), by omega, hJ _ _ _ ⟨k + 1, done ++ [[.val (.string ns[k].Name), .own l ns[k].Subs.length, .val (.string ns[k].Value)]], by simp [upd, t0], by simp [upd], by simp [upd], ((hM.trans m1).add _).set (by omega), ?_, by simp [hd], rfl, by omega⟩⟩
  rw [take_succ_eq_append_getElem hlt, map_append]
  refine hG.step (H1 := H1) (ak_.val _ (ak_.cons F1.tree (ak_.val _ (ak_.nil _ _ _)) ⟨l1, Nat.le_refl _⟩)) l1 (fun y q1 q2 => m1.kept y q2) (by simp) (fun y q1 q2 => by (repeat (first | rw [al_ (by omega)] | rw [aE_ (by first | omega | (simp only [ls_, la_, lc_, ln_]; omega))]))) ?_
  exact aK_ (by simp; omega)
 ·simp (disch := (first | omega | (simp only [ls_, la_, lc_, ln_]; first | done | omega))) only [go_sem, reduceEqDiff, reduceCtorEq, ↓reduceIte, t0, t3, t4, hlt]
  have e : k = ns.length := by omega
  subst e
  rw [take_length] at hG
  exact ⟨⟨hM, hG.done hd⟩, _, rfl⟩
def BU_ : LC :=
 .q [.o [.bx 3 41 0, .s 6 (.alloc 41 z0z)], .o [.s 9 (.buildSlice 93 3 (.agg #[.string ⟨#[]⟩, .slice none 0 0, .string ⟨#[]⟩]) 0 []), .m 7 9], .q [.o [.ki 8 0], .block 0 (.loop (.q [.q [.o [.m 10 8, .fa 11 0 3, .ln 12 11,
 .ll 13 12, .bb 14 .lss false 10 13], .k 14 .skip (.exit 0)], .block 1 (.q [.o [.fa 17 0 3, .ln 18 17, .m 19 8, .ia 20 3 18 19, .ld 21 3 20, .m 22 1, .m 23 2, .c3 24 150 21 22 23, .nt 25 24], .k 25 (.o [.m 26 7, .fa 27 0
 3, .ln 28 27, .m 29 8, .ia 30 3 28 29, .ld 31 3 30, .s 32 (.buildSlice 93 3 (.agg #[.string ⟨#[]⟩, .slice none 0 0, .string ⟨#[]⟩]) 1 [(0, .tmp 31)]), .ap 33 93 3 56 26 32, .m 7 33]) .skip]), .o [.m 15 8, .bk 16 .add
 false 15 1, .m 8 16]]))], .o [.m 34 7, .c1 35 112 34, .s 36 (.build z0z [(0, 1)] [(0, .tmp 35)]), .st 1 6 36], .ret]
def xA_ : LF := ⟨3, 37, BU_, [.cell 6 (some 1)]⟩
theorem Ax_ : au_ Tryz.prog Tryz.f154 xA_ := ah_
theorem kZ_ (x : ad_) (n : ByteArray) (s : List ByteArray) (hx : ad_.sz x ≤ 1048576) : aQ_ Tryz.prog 154 [.agg (ad_.cells x), .val (.string n), .list 0 1 (s.map am_)] (.agg (ad_.cells ⟨cR_ x.Nodes n s⟩)) (fun a => ∃ l, a = .agg [.own l (cR_ x.Nodes n s).length]) := by
 refine bM_ mixed Tryz.func154 Ax_ rfl (fun h0 => ?_)
 have hs := ad_.sz_Nodes hx
 have hl := aA_ hs
 have hm : ∀ e ∈ x.Nodes, ac_.sz e ≤ 1048576 := fun e he => cq_ hs he
 have hin : ∀ a : ac_, ac_.sz a ≤ 1048576 → ∀ H, aa_ Tryz.prog 150 [.agg [.val (.string a.Name), .list 0 1 (a.Subs.map am_), .val (.string a.Value)], .val (.string n), .list 0 1 (s.map am_)] H (.val (.bool (inN n s a))) := fun a ha H => kA_ a n s ha H
 simp (disch := omega) only [xA_, BU_, ad_.cells, go_sem, Nat.reduceAdd, ↓reduceIte]
 refine aP_ (fun N t h => ∃ (k : Nat), t 1 = .val (.string n) ∧ t 2 = .list 0 1 (s.map am_) ∧ t 3 = .ptr h0.length 1 0 0 ∧ t 6 = .ptr (h0.length + 1) 1 0 0 ∧ t 7 = .own (h0.length + 2) (cR_ (x.Nodes.take k) n s).length ∧ t 8 = .val (.int .i64 k) ∧ aD_ h0 h ∧
  h[h0.length]? = some ⟨41, 1, [[.list 0 3 (x.Nodes.map ac_.cells)]]⟩ ∧ h[h0.length + 1]? = some ⟨41, 1, [[.val (.slice none 0 0)]]⟩ ∧ h[h0.length + 2]? = some ⟨93, 3, (cR_ (x.Nodes.take k) n s).map ac_.cells⟩ ∧ N = x.Nodes.length - k ∧ k ≤ x.Nodes.length) x.Nodes.length ?_ ?_
 ·exact ⟨0, rfl, rfl, rfl, rfl, rfl, rfl, aD_.app _ _, by rw [b4_]; rfl, by rw [bs_]; rfl, by rw [bs_]; rfl, rfl, Nat.zero_le _⟩
 rintro J hJ N t h ⟨k, t1, t2, t3, t6, t7, t8, hM, o0, o1, o2, rfl, hk⟩
 have ml := hM.len
 have g2 := (List.getElem?_eq_some_iff.1 o2).1
 have hkl := tw_ x.Nodes n s k
 by_cases hlt : k < x.Nodes.length
 ·simp (disch := (first | omega | (simp only [ls_, la_, lc_, ln_]; first | done | omega))) only [go_sem, reduceEqDiff, Nat.reduceAdd, ↓reduceIte, t1, t2, t3, t8, o0, hlt, ac_.cells]
  refine aa_.call (hin x.Nodes[k] (hm _ (getElem_mem hlt)) _) ?_
  cases q : inN n s x.Nodes[k]
  ·simp (disch := (first | omega | (simp only [ls_, la_, lc_, ln_]; first | done | omega))) only [aE_, aU_, go_sem, reduceEqDiff, Nat.reduceAdd, reduceLeDiff, ↓reduceIte, t3, t7, t8, o0, o2, ac_.cells]
   repeat (refine And.intro (by first | omega | (exact strs_cellv _) | assumption | (simp; done)) ?_)
   have e1 := sg_ hlt q
   refine ⟨x.Nodes.length - (k + 1), by omega, hJ _ _ _ ⟨k + 1, by simp [upd, t1], by simp [upd, t2], by simp [upd, t3], by simp [upd, t6], by rw [e1]; simp [upd], by simp [upd], (hM.add _).set (by omega), ?_, ?_, ?_, rfl, by omega⟩⟩
   ·(repeat (first | rw [al_ (by omega)] | rw [aE_ (by first | omega | (simp only [ls_, la_, lc_, ln_]; omega))])); exact o0
   ·(repeat (first | rw [al_ (by omega)] | rw [aE_ (by first | omega | (simp only [ls_, la_, lc_, ln_]; omega))])); exact o1
   ·rw [e1, map_append]; exact aK_ (by simp; omega)
  ·simp (disch := (first | omega | (simp only [ls_, la_, lc_, ln_]; first | done | omega))) only [go_sem, reduceEqDiff, ↓reduceIte, t8]
   have e1 := sm_ hlt q
   exact ⟨x.Nodes.length - (k + 1), by omega, hJ _ _ _ ⟨k + 1, by simp [upd, t1], by simp [upd, t2], by simp [upd, t3], by simp [upd, t6], by rw [e1]; simp [upd, t7], by simp [upd], hM, o0, o1, by rw [e1]; exact o2, rfl, by omega⟩⟩
 ·have e : k = x.Nodes.length := by omega
  subst e
  rw [take_length] at t7 o2
  simp (disch := (first | omega | (simp only [ls_, la_, lc_, ln_]; first | done | omega))) only [go_sem, reduceEqDiff, ↓reduceIte, t3, t7, t8, o0, hlt]
  have hz : an_ ac_.sz (cR_ x.Nodes n s) ≤ 1048576 := Nat.le_trans (vH_ x n s) hx
  refine eH_ (hI_ (cR_ x.Nodes n s) hz) (bc_.cons (ca_.res (n := 3) (lC_ o2 (by simp) (oJ_ _))) bc_.nil) (fun av H1 m1 F1 q1 => ?_)
  obtain ⟨l, rfl⟩ := q1
  have p1 := m1.at o1
  have l1 := m1.len
  simp (disch := (first | omega | (simp only [ls_, la_, lc_, ln_]; first | done | omega))) only [aK_, go_sem, reduceEqDiff, ↓reduceIte, t6, p1, bE_, Option.map_some]
  refine ⟨⟨(hM.trans m1).set (by omega), ?_⟩, _, rfl⟩
  exact (ay_.agg (ak_.cons (F1.tree.keep fun y r1 r2 => by (repeat (first | rw [al_ (by omega)] | rw [aE_ (by first | omega | (simp only [ls_, la_, lc_, ln_]; omega))]))) (ak_.nil _ _ _) ⟨l1, Nat.le_refl _⟩)).widen (by omega) (by simp)
theorem z3_ {h0 hn : List Row} {x1 x2 y1 y2 : Row} {l : Nat} (h : (h0 ++ [y1, y2]).length ≤ l) : (h0 ++ x1 :: x2 :: hn)[l]? = ((h0 ++ [y1, y2]) ++ hn)[l]? := by
 simp only [la_, lc_, ln_] at h
 rw [append_assoc, getElem?_append_right (by omega), getElem?_append_right (by omega)]
 obtain ⟨m, hm⟩ : ∃ m, l - h0.length = m + 2 := ⟨l - h0.length - 2, by omega⟩
 rw [hm]; rfl
theorem tp_ {h0 hn : List Row} {x1 x2 y1 y2 : Row} {n v : ByteArray} {s : List ByteArray} {l : Nat} (hf : dw_ (h0 ++ [y1, y2]).length ((h0 ++ [y1, y2]) ++ hn) (.own l s.length) (.list 0 1 (s.map am_))) :
 dw_ h0.length (h0 ++ x1 :: x2 :: hn) (.agg [.val (.string n), .own l s.length, .val (.string v)]) (.agg (ac_.cells ⟨n, s, v⟩)) := by
 have hb := (hf.b.keep (H' := h0 ++ x1 :: x2 :: hn) fun l q1 q2 => z3_ q1).widen (lo' := h0.length) (hi' := (h0 ++ x1 :: x2 :: hn).length) (by simp) (by simp)
 exact (ay_.agg (ak_.val _ (ak_.cons hb (ak_.val _ (ak_.nil _ _ _)) ⟨by simp, Nat.le_refl _⟩))).fresh
def ib_ (P : Program) (f : FuncId) (args : List AV) (r : AV) (Q : AV → List Row → Prop) : Prop :=
 ∀ (h : List Row) (K : AV → List Row → Prop), (∀ av H', aD_ h H' → FB h.length H'.length H' av r → Q av H' → K av H') → callSem P f args h K
theorem tD_ {P : Program} {f : FuncId} {fn : Func} {lf : LF} {args : List AV} {r : AV} {Q : AV → List Row → Prop} (hmx : P.follows .mixedOrders = true) (hf : P.funcs[f]? = some fn) (hl : au_ P fn lf) (hn : args.length = lf.np)
 (hw : ∀ h : List Row, Ex P lf.N (cB_ lf.res fun av h' => Res h h' av r ∧ Q av h') lf.body [] (f2_ args) h) : ib_ P f args r Q := by
 intro h K hk
 refine (bg_ hmx hf hl (bT_ hn (hw h))).mono ?_
 rintro a h' ⟨⟨m, h1⟩, h2⟩
 exact hk a h' m ⟨h1, Nat.le_refl _⟩ h2
theorem ib_.call {P : Program} {f : FuncId} {args : List AV} {r : AV} {Q : AV → List Row → Prop} {Q' : AV → Prop} (hc : ib_ P f args r Q) (hq : ∀ a H, Q a H → Q' a) : aQ_ P f args r Q' := by
 intro h K hk
 refine hc h K fun av H' m F q => ?_
 obtain ⟨hn, rfl⟩ := m.tail
 exact hk av hn F.tree.fresh (hq _ _ q)
abbrev uk_ (x : ac_) (a : AV) : Prop := ∃ l, a = .agg [.val (.string x.Name), .own l x.Subs.length, .val (.string x.Value)]
def Cf_ : LC :=
 .q [.o [.bx 1 93 0, .s 2 (.alloc 93 (.agg #[.string ⟨#[]⟩, .slice none 0 0, .string ⟨#[]⟩]))], .o [.fa 3 1 1, .ln 4 3, .c1 5 102 4, .fa 6 1 1, .st 1 6 5], .o [.ld 7 3 1, .st 3 2 7], .ret]
def xn_ : LF := ⟨1, 8, Cf_, [.cell 2 (some 3)]⟩
theorem yZ_ : au_ Tryz.prog Tryz.f104 xn_ := ah_
theorem kH_ (x : ac_) (hx : ac_.sz x ≤ 1048576) : aQ_ Tryz.prog 104 [.agg (ac_.cells x)] (.agg (ac_.cells x)) (uk_ x) := by
 refine dn_ mixed Tryz.func104 yZ_ rfl (fun h0 => ?_)
 have h2 := aA_ (ac_.sz_Subs hx)
 simp (disch := omega) only [xn_, Cf_, ac_.cells, go_sem, Nat.reduceEqDiff, Nat.reduceAdd, ↓reduceIte]
 refine b5_ x.Subs h2 _ _ (fun av hn hf hq => ?_)
 obtain ⟨l, rfl⟩ := hq
 simp (disch := omega) only [cF_, append_assoc, go_sem, Nat.reduceEqDiff, Nat.reduceAdd, Nat.reduceLeDiff, ↓reduceIte]
 exact ⟨_, rfl, tp_ hf, _, rfl⟩
def c60 : LC :=
 .q [.o [.bx 1 41 0, .s 2 (.alloc 41 z0z)], .o [.s 6 (.build z0z [(0, 1)] []), .s 3 (.alloc 41 z0z), .st 1 3 6], .q [.o [.fa 7 0 1, .ln 8 7, .ll 9 8, .ki 10 0], .block 0 (.ghost (.loop (.q [.o [.bb 11 .lss false 10 9], .k
 11 .skip (.exit 0), .block 1 (.q [.o [.ia 12 3 8 10, .ld 13 3 12, .s 5 (.alloc 93 (.agg #[.string ⟨#[]⟩, .slice none 0 0, .string ⟨#[]⟩])), .st 3 5 13], .gops [.fa 14 0 3, .ln 15 14, .ld 16 3 5] [(.c1 17 104 16, [.fa 14
 0 3, .ln 15 14]), (.s 18 (.buildSlice 93 3 (.agg #[.string ⟨#[]⟩, .slice none 0 0, .string ⟨#[]⟩]) 1 [(0, .tmp 17)]), [.fa 14 0 3, .ln 15 14]), (.ap 19 93 3 56 15 18, []), (.fa 20 0 3, []), (.st 1 20 19, [])]]), .o [.bk
 21 .add false 10 1, .m 10 21]])))], .o [.ld 22 1 3, .st 1 2 22], .ret]
def Bf_ : LF := ⟨1, 23, c60, [.cell 2 (some 1)]⟩
theorem Dj_ : au_ Tryz.prog Tryz.f60 Bf_ := ah_
theorem hL_ (x : ad_) (hx : ad_.sz x ≤ 1048576) : ib_ Tryz.prog 60 [.agg (ad_.cells x)] (.agg (ad_.cells x)) (fun a H => ∃ l, a = .agg [.own l x.Nodes.length] ∧ ∃ es, H[l]? = some ⟨93, 3, es⟩) := by
 refine tD_ mixed Tryz.func60 Dj_ rfl (fun h0 => ?_)
 have hs := ad_.sz_Nodes hx
 have hl := aA_ hs
 have hm : ∀ e ∈ x.Nodes, ac_.sz e ≤ 1048576 := fun e he => by have := bP_ (f := ac_.sz) he; omega
 simp (disch := omega) only [Bf_, c60, ad_.cells, bE_, Option.map_some, go_sem, Nat.reduceEqDiff, Nat.reduceAdd, ↓reduceIte]
 refine iq_ (h0 ++ [⟨41, 1, [[.list 0 3 (x.Nodes.map ac_.cells)]]⟩, ⟨41, 1, [[.val (.slice none 0 0)]]⟩, ⟨41, 1, [[.own (h0.length + 3) 0]]⟩, ⟨93, 3, []⟩]) (fun t => ld_ (h0 ++ [⟨41, 1, [[.list 0 3 (x.Nodes.map ac_.cells)]]⟩, ⟨41, 1, [[.val (.slice none 0 0)]]⟩]) [] (.ty 41) 1 [] [] 93 3 (h0.length + 3) (by simp) (by simp) (by simp)) ?_
 refine aP_ (fun n t h => ∃ (k : Nat) (done : List (List AV)), t 2 = .ptr (h0.length + 1) 1 0 0 ∧ t 3 = .ptr (h0.length + 2) 1 0 0 ∧ t 8 = .list 0 3 (x.Nodes.map ac_.cells) ∧ t 9 = .val (.int .i64 x.Nodes.length) ∧ t 10 = .val (.int .i64 k) ∧ aD_ h0 h ∧
  h[h0.length + 1]? = some ⟨41, 1, [[.val (.slice none 0 0)]]⟩ ∧ h[h0.length + 2]? = some ⟨41, 1, [[.own (h0.length + 3) k]]⟩ ∧
  cb_ (h0.length + 3) h 93 3 done ((x.Nodes.take k).map ac_.cells) ∧ done.length = k ∧ n = x.Nodes.length - k ∧ k ≤ x.Nodes.length) x.Nodes.length ?_ ?_
 ·exact ⟨0, [], rfl, rfl, rfl, rfl, rfl, aD_.app _ _, by rw [bs_]; rfl, by rw [bs_]; rfl, cb_.zero (by rw [bs_]; rfl), rfl, rfl, Nat.zero_le _⟩
 rintro J hJ n t h ⟨k, done, t2, t3, t8, t9, t10, hM, o1, o2, hG, hd, rfl, hk⟩
 have o3 := hG.row
 by_cases hlt : k < x.Nodes.length
 ·have w2 := fun l => as_ (l := l) o2
  have ml := hM.len
  have gl := hG.lt
  simp (disch := omega) only [t2, t3, t8, t9, t10, o2, w2, hlt, ac_.cells, ag_, go_sem, Nat.reduceEqDiff, Nat.reduceAdd, ↓reduceIte]
  refine bk_ (kH_ x.Nodes[k] (hm _ (getElem_mem hlt))) (fun av H1 m1 F1 q1 => ?_)
  obtain ⟨l, rfl⟩ := q1
  have p1 := m1.at (as_ o1)
  have p2 := m1.at (as_ o2)
  have p3 := m1.at (as_ o3)
  have v1 := fun l => as_ (l := l) p1
  have v2 := fun l => as_ (l := l) p2
  have v3 := fun l => as_ (l := l) p3
  have l1 := m1.len
  simp only [la_, lc_, ln_] at l1
  have z2 := fun r l => rF_ (l := l) (i := h0.length + 3) p2 r (by omega)
  simp (disch := omega) only [t3, t10, p2, v2, v3, z2, hd, qr_, set_append_left, go_sem, Nat.reduceEqDiff, Nat.reduceAdd, Nat.reduceLeDiff, ↓reduceIte]
  refine ⟨by omega, by omega, x.Nodes.length - (k + 1), by omega, hJ _ _ _ ⟨k + 1, done ++ [[.val (.string x.Nodes[k].Name), .own l x.Nodes[k].Subs.length, .val (.string x.Nodes[k].Value)]], by simp [upd, t2], by simp [upd, t3], by simp [upd, t8], by simp [upd, t9], by simp [upd], ?_, ?_, ?_, ?_, ?_, rfl, by omega⟩⟩
  ·exact ((((hM.add _).trans m1).set (by omega)).set (by omega)).add _
  ·exact as_ (by rw [getElem?_set_ne (by omega), getElem?_set_ne (by omega)]; exact p1)
  ·exact rT_ (by rw [getElem?_set_ne (by omega)]; exact p2) _
  ·rw [take_succ_eq_append_getElem hlt, map_append]
   refine (hG.more (H' := h ++ [_]) (by simp) (fun y q1 q2 => getElem?_append_left q2)).step F1.tree.unagg m1.len (fun y q1 q2 => m1.kept y q2) (by simp) (fun y q1 q2 => ?_) ?_
   ·rw [getElem?_append_left (by simpa using q2), getElem?_set_ne (by omega), getElem?_set_ne (by omega)]
   ·exact as_ (by rw [getElem?_set_ne (by omega)]; exact fb_ p3 _)
  ·simp [hd]
 ·have u1 := fun r => fb_ o1 r
  simp (disch := omega) only [t2, t3, t8, t9, t10, o1, o2, u1, hlt, ag_, go_sem, Nat.reduceEqDiff, Nat.reduceAdd, ↓reduceIte]
  have e : k = x.Nodes.length := by omega
  subst e
  rw [take_length] at hG
  have g2 := hG.more (H' := h.set (h0.length + 1) ⟨41, 1, [[.own (h0.length + 3) x.Nodes.length]]⟩) (by simp) (fun y q1 q2 => by rw [getElem?_set_ne (by omega)])
  exact ⟨⟨hM.set (by omega), (ay_.agg (ak_.cons (g2.done hd) (ak_.nil _ _ _) ⟨Nat.le_of_lt g2.lt, Nat.le_refl _⟩)).widen (by omega) (Nat.le_refl _)⟩, _, rfl, done, g2.row⟩
def yV_ : LC :=
 .q [.o [.ki 4 0], .q [.o [.m 6 0, .ll 7 6, .ki 8 0], .block 0 (.loop (.q [.o [.bb 9 .lss false 8 7], .k 9 .skip (.exit 0), .block 1 (.q [.o [.m 10 8, .m 5 10], .o [.m 11 1, .m 12 0, .m 13 5, .ia 14 3 12 13, .ld 15 3 14,
 .s 16 (.callv (.tmp 11) [.tmp 15])], .k 16 (.q [.o [.m 17 5, .m 4 17], .ret]) .skip]), .o [.bk 18 .add false 8 1, .m 8 18]]))], .o [.s 4 (.mov (.const (.int .i64 (-1))))], .ret]
def xk_ : LF := ⟨2, 19, yV_, [.tmp 4]⟩
theorem BY_ : au_ prog Tryz.f188 xk_ := ah_
theorem gM_ {lo E l m : Nat} {H : List Row} {ts : List Tr} (s : bZ_ lo H E 3 l m ts) (p : Tr → Bool) (G : Nat) (caps : List AV) (hm : m ≤ 1048576) (hc : cC_ prog G = true)
 (hp : ∀ H' : List Row, H.length ≤ H'.length → (∀ x, x < H.length → x ≠ l → H'[x]? = H[x]?) → ∀ t ∈ ts.take m, m2_ prog G (.agg t.c :: caps) H' (.val (.bool (p t)))) : m2_ prog 188 [.sub l ts.length 0 m, .fn G [] caps] H (.val (.int .i64 (cp_ p (ts.take m) 0))) := by
 intro K hk
 refine bg_ mixed Tryz.func188 BY_ (bT_ rfl ?_)
 have hr := s.row
 have hle := s.le
 simp (disch := omega) only [xk_, yV_, hr, Nat.sub_zero, go_sem, reduceCtorEq, Int.reduceNeg, ↓reduceIte]
 refine aP_ (fun n t h => ∃ k : Nat, t 0 = .sub l ts.length 0 m ∧ t 1 = .fn G [] caps ∧ t 7 = .val (.int .i64 m) ∧ t 8 = .val (.int .i64 k) ∧ aD_ H h ∧ n = m - k ∧ k ≤ m ∧ cp_ p (ts.take m) 0 = cp_ p ((ts.take m).drop k) k) m ⟨0, rfl, rfl, rfl, rfl, aD_.refl _, rfl, Nat.zero_le _, rfl⟩ ?_
 rintro J hJ n t h ⟨k, t0, t1, t7, t8, hM, rfl, hk', hS⟩
 have hr := hM.at hr
 by_cases hlt : k < m
 ·have hlt2 : k < ts.length := by omega
  have hlt3 : k < (ts.take m).length := by rw [length_take]; omega
  rw [im_ p _ k hlt3, getElem_take] at hS
  have hw := (s.wide ts[k] (getElem_mem hlt2)).1
  have htk : ts[k].c.take 3 = ts[k].c := take_of_length_le (by omega)
  simp (disch := omega) only [t0, t1, t7, t8, hr, hlt, hw, htk, hc, Int.zero_add, go_sem, reduceEqDiff, reduceCtorEq, Int.reduceNeg, ↓reduceIte]
  refine hp _ hM.len (fun x q1 _ => hM.kept x q1) _ (lP_ hlt hlt2) _ (fun H2 m2 => ?_)
  cases q : p ts[k]
  ·simp (disch := omega) only [t8, aq_, go_sem, reduceEqDiff, Int.reduceNeg, ↓reduceIte]
   exact ⟨m - (k + 1), by omega, hJ _ _ _ ⟨k + 1, by simp [upd, t0], by simp [upd, t1], by simp [upd, t7], by simp [upd], hM.trans m2, rfl, by omega, by rw [hS, q]; rfl⟩⟩
  ·simp (disch := omega) only [go_sem, reduceEqDiff, Int.reduceNeg, ↓reduceIte]
   rw [hS, q] at hk
   exact hk _ (hM.trans m2)
 ·simp (disch := omega) only [t7, t8, hlt, go_sem, Int.reduceNeg, ↓reduceIte]
  rw [hS, fO_ _ _ _ (by rw [length_take]; omega)] at hk
  exact hk _ hM
def Cn_ : LC :=
 .q [.o [.nl 4], .o [.m 8 0, .m 9 1, .c2 10 188 8 9, .m 5 10], .q [.o [.m 11 5, .s 12 (.bin .eql false (.tmp 11) (.const (.int .i64 (-1))))], .k 12 (.q [.o [.m 13 0, .m 4 13], .ret]) .skip], .q [.o [.m 14 5, .bk 15 .add
 false 14 1, .m 6 15], .block 0 (.loop (.q [.q [.o [.m 16 6, .m 17 0, .ll 18 17, .bb 19 .lss false 16 18], .k 19 .skip (.exit 0)], .block 1 (.q [.o [.m 22 0, .m 23 6, .ia 24 3 22 23, .ld 25 3 24, .s 7 (.alloc 93 (.agg
 #[.string ⟨#[]⟩, .slice none 0 0, .string ⟨#[]⟩])), .st 3 7 25], .o [.m 26 1, .ld 27 3 7, .s 28 (.callv (.tmp 26) [.tmp 27]), .nt 29 28], .k 29 (.q [.o [.m 30 0, .m 31 5, .ld 32 3 7, .ia 33 3 30 31, .st 3 33 32], .o [.m
 34 5, .bk 35 .add false 34 1, .m 5 35]]) .skip]), .o [.m 20 6, .bk 21 .add false 20 1, .m 6 21]]))], .o [.m 36 0, .m 37 5, .s 38 (.sliceSl 3 (.tmp 36) (some (.tmp 37)) none), .z (.clear 93 3 (.agg #[.string ⟨#[]⟩, .slice
 none 0 0, .string ⟨#[]⟩]) (.tmp 38))], .o [.m 39 0, .m 40 5, .s 41 (.sliceSl 3 (.tmp 39) none (some (.tmp 40))), .m 4 41], .ret]
def wE_ : LF := ⟨2, 42, Cn_, [.tmp 4]⟩
theorem AW_ : au_ prog Tryz.f165 wE_ := ah_
theorem d7_ {lo l m : Nat} {H : List Row} {ts : List Tr} (s : bZ_ lo H 93 3 l m ts) (p : Tr → Bool) (G : Nat) (caps : List AV) (hm : m ≤ 1048576) (hc : cC_ prog G = true)
 (hp : ∀ H' : List Row, H.length ≤ H'.length → (∀ x, x < H.length → x ≠ l → H'[x]? = H[x]?) → ∀ t ∈ ts.take m, m2_ prog G (.agg t.c :: caps) H' (.val (.bool (p t)))) {K : AV → List Row → Prop}
 (hk : ∀ (H' : List Row) (m' : Nat) (ts' : List Tr), H.length ≤ H'.length → (∀ x, x < H.length → x ≠ l → H'[x]? = H[x]?) → bZ_ lo H' 93 3 l m' ts' → ts'.length = ts.length → (∀ x, x ∈ cr_ l ts' → x ∈ cr_ l ts) → ts'.take m' = (ts.take m).filter (fun t => !p t) → K (.sub l ts'.length 0 m') H') :
 callSem prog 165 [.sub l ts.length 0 m, .fn G [] caps] H K := by
 refine bg_ mixed Tryz.func165 AW_ (bT_ rfl ?_)
 have hr := s.row
 have hle := s.le
 have hll := s.lt
 simp (disch := omega) only [wE_, Cn_, go_sem, reduceEqDiff, reduceCtorEq, Int.reduceNeg, ↓reduceIte]
 refine gM_ s p G caps hm hc hp _ (fun H0 m0 => ?_)
 have l0 := m0.len
 rcases kx_ p (ts.take m) 0 with ⟨h1, h2⟩ | ⟨i0, hi0, h1, h2, h3⟩
 ·rw [h1]
  simp (disch := omega) only [go_sem, reduceCtorEq, Int.reduceNeg, ↓reduceIte]
  refine hk H0 m ts l0 (fun x q _ => m0.kept x q) (s.more m0) rfl (fun _ q => q) (filter_eq_self.2 fun a ha => by rw [h2 a ha]; rfl).symm
 rw [length_take] at hi0
 rw [getElem_take] at h2
 have hneg : (((0 + i0 : Nat) : Int) = -1) = False := eq_false (by omega)
 rw [h1]
 simp (disch := omega) only [Nat.zero_add, aq_, go_sem, reduceEqDiff, reduceCtorEq, Int.reduceNeg, ↓reduceIte]
 have hkept0 : (ts.take (i0 + 1)).filter (fun t => !p t) = ts.take i0 := by
  rw [take_succ_eq_append_getElem (by omega), filter_append]
  have e1 : (ts.take i0).filter (fun t => !p t) = ts.take i0 := filter_eq_self.2 fun a ha => by
   obtain ⟨j, hj, rfl⟩ := mem_iff_getElem.1 ha
   rw [length_take] at hj
   have := h3 j (by omega)
   rw [getElem_take] at this
   rw [getElem_take, this]; rfl
  rw [e1]; simp [h2]
 refine aP_ (fun n t h => ∃ (j : Nat) (kept W : List Tr), t 0 = .sub l ts.length 0 m ∧ t 1 = .fn G [] caps ∧ t 5 = .val (.int .i64 kept.length) ∧ t 6 = .val (.int .i64 j) ∧ H.length ≤ h.length ∧ (∀ x, x < H.length → x ≠ l → h[x]? = H[x]?) ∧ h[l]? = some ⟨.ty 93, 3, W.map Tr.c⟩ ∧
  kept = (ts.take j).filter (fun t => !p t) ∧ W.length = ts.length ∧ W.take kept.length = kept ∧ W.drop kept.length = ts.drop kept.length ∧ kept.length ≤ j ∧ n = m - j ∧ j ≤ m) (m - (i0 + 1)) ⟨i0 + 1, ts.take i0, ts, rfl, rfl, by simp [upd]; omega, by simp [upd], l0, fun x q _ => m0.kept x q, m0.at hr, hkept0.symm, rfl, by rw [length_take, Nat.min_eq_left (by omega)], rfl, by rw [length_take]; omega, rfl, by omega⟩ ?_
 rintro J hJ n t h ⟨j, kept, W, t0, t1, t5, t6, hl, hkeep, hrow, hkp, hW, hW1, hW2, hkj, rfl, hj⟩
 have gl : l < h.length := by omega
 by_cases hlt : j < m
 ·have hlt2 : j < ts.length := by omega
  have hlt3 : j < W.length := by omega
  have hlk : kept.length < W.length := by omega
  have hlkm : kept.length < m := by omega
  have hWj : W[j] = ts[j] := by
   have := congrArg (fun q => q[j - kept.length]?) hW2
   simp only [getElem?_drop] at this
   rw [Nat.add_sub_of_le hkj, getElem?_eq_getElem hlt3, getElem?_eq_getElem hlt2] at this
   exact Option.some.inj this
  have hWk : W[kept.length] = ts[kept.length] := by
   have := congrArg (fun q => q[0]?) hW2
   simp only [getElem?_drop, Nat.add_zero] at this
   rw [getElem?_eq_getElem hlk, getElem?_eq_getElem (by omega)] at this
   exact Option.some.inj this
  obtain ⟨hw, hw2⟩ := s.wide ts[j] (getElem_mem hlt2)
  have htk : ts[j].c.take 3 = ts[j].c := take_of_length_le (by omega)
  have hwk := (s.wide ts[kept.length] (getElem_mem (by omega))).1
  have hdk : ts[kept.length].c.drop 3 = [] := drop_eq_nil_of_le (by omega)
  have htk2 := fun u => take_succ_eq_append_getElem (l := ts) (i := u)
  simp (disch := (first | omega | (simp only [ls_, la_, lc_, ln_]; first | done | omega))) only [aU_, go_sem, reduceEqDiff, Nat.reduceAdd, reduceCtorEq, ↓reduceIte, t0, t1, t6, hrow, hlt, hW, hWj, hw, hw2, htk, hc, Nat.sub_zero, Int.zero_add]
  refine hp _ (by simp; omega) (fun x q1 q2 => by (repeat (first | rw [al_ (by omega)] | rw [aE_ (by first | omega | (simp only [ls_, la_, lc_, ln_]; omega))])); exact hkeep x q1 q2) _ (lP_ hlt hlt2) _ (fun H2 m2 => ?_)
  have l2 := m2.len
  simp only [la_, lc_, ln_] at l2
  have rw2 := m2.at (as_ hrow)
  have rw3 := m2.at (jA_ h _)
  cases q : p ts[j]
  ·simp (disch := (first | omega | (simp only [ls_, la_, lc_, ln_]; first | done | omega))) only [go_sem, reduceEqDiff, reduceCtorEq, ↓reduceIte, t0, t5, t6, rw2, rw3, hlkm, hW, hWk, hw, hw2, htk, hwk, hdk, Int.zero_add, aq_]
   have e1 : (ts.take (j + 1)).filter (fun t => !p t) = kept ++ [ts[j]] := by rw [htk2 j hlt2, filter_append, ← hkp]; simp [q]
   refine ⟨m - (j + 1), by omega, hJ _ _ _ ⟨j + 1, kept ++ [ts[j]], W.set kept.length ts[j], by simp [upd, t0], by simp [upd, t1], by simp [upd], by simp [upd], by (try simp only [ls_]); omega, fun x q1 q2 => ?_, ?_, e1.symm, by simp [hW], ?_, ?_, by simp; omega, rfl, by omega⟩⟩
   ·rw [al_ (by omega), m2.kept x (by simp; omega), aE_ (by omega)]; exact hkeep x q1 q2
   ·rw [aK_ (by omega), map_set]
   ·rw [la_, length_singleton, take_succ_eq_append_getElem (by simpa using hlk), getElem_set_self, take_set_of_le (Nat.le_refl _), hW1]
   ·rw [la_, length_singleton, drop_set_of_lt (by omega), ← drop_drop, hW2, drop_drop]
  ·simp (disch := (first | omega | (simp only [ls_, la_, lc_, ln_]; first | done | omega))) only [go_sem, reduceEqDiff, ↓reduceIte, t6, aq_]
   have e1 : (ts.take (j + 1)).filter (fun t => !p t) = kept := by rw [htk2 j hlt2, filter_append, ← hkp]; simp [q]
   refine ⟨m - (j + 1), by omega, hJ _ _ _ ⟨j + 1, kept, W, by simp [upd, t0], by simp [upd, t1], by simp [upd, t5], by simp [upd], by omega, fun x q1 q2 => ?_, ?_, e1.symm, hW, hW1, hW2, by omega, rfl, by omega⟩⟩
   ·rw [m2.kept x (by simp; omega), aE_ (by omega)]; exact hkeep x q1 q2
   ·exact rw2
 have e : j = m := by omega
 subst e
 have zc : List AV := [.val (.string (txt [])), .val (.slice none 0 0), .val (.string (txt []))]
 have hz : (W.map Tr.c).take kept.length ++ (List.replicate (j - kept.length) [.val (.string (txt [])), .val (.slice none 0 0), .val (.string (txt []))] ++ (W.map Tr.c).drop j) = (kept ++ (List.replicate (j - kept.length) (⟨[.val (.string (txt [])), .val (.slice none 0 0), .val (.string (txt []))], [.val (.string (txt [])), .val (.slice none 0 0), .val (.string (txt []))], []⟩ : Tr) ++ ts.drop j)).map Tr.c := by
  have e2 : W.drop j = ts.drop j := by
   have := congrArg (List.drop (j - kept.length)) hW2
   rwa [drop_drop, drop_drop, Nat.add_sub_of_le hkj] at this
  rw [map_append, map_append, map_replicate, ← map_take, ← map_drop, hW1, e2]
 have hz2 : (kept ++ (List.replicate (j - kept.length) (⟨[.val (.string (txt [])), .val (.slice none 0 0), .val (.string (txt []))], [.val (.string (txt [])), .val (.slice none 0 0), .val (.string (txt []))], []⟩ : Tr) ++ ts.drop j)).length = ts.length := by
  simp only [la_, length_replicate, length_drop]; omega
 have hkt := hkj
 generalize hts : kept ++ (List.replicate (j - kept.length) (⟨[.val (.string (txt [])), .val (.slice none 0 0), .val (.string (txt []))], [.val (.string (txt [])), .val (.slice none 0 0), .val (.string (txt []))], []⟩ : Tr) ++ ts.drop j) = ts' at hz hz2
 simp (disch := (first | omega | (simp only [ls_, la_, lc_, ln_]; first | done | omega))) only [aK_, go_sem, reduceEqDiff, reduceCtorEq, ↓reduceIte, t0, t5, t6, hrow, hlt, hW, hle, hkt, hz, hz2, Nat.sub_zero]
 have hold : (kept ++ ts.drop j).Sublist ts := by
  have : (ts.take j ++ ts.drop j).Sublist ts := by rw [take_append_drop]; exact List.Sublist.refl _
  exact (List.Sublist.append (by rw [hkp]; exact filter_sublist) (List.Sublist.refl _)).trans this
 have hnil : ∀ x, x ∉ ((List.replicate (j - kept.length) (⟨[.val (.string (txt [])), .val (.slice none 0 0), .val (.string (txt []))], [.val (.string (txt [])), .val (.slice none 0 0), .val (.string (txt []))], []⟩ : Tr)).map Tr.f).flatten := by
  intro x hx
  obtain ⟨f, q1, q2⟩ := mem_flatten.1 hx
  obtain ⟨y, q3, rfl⟩ := mem_map.1 q1
  rw [(mem_replicate.1 q3).2] at q2
  cases q2
 have hfin : bZ_ lo (h.set l ⟨.ty 93, 3, ts'.map Tr.c⟩) 93 3 l kept.length ts' := by
  refine s.renew (l' := l) (new := List.replicate (j - kept.length) (⟨[.val (.string (txt [])), .val (.slice none 0 0), .val (.string (txt []))], [.val (.string (txt [])), .val (.slice none 0 0), .val (.string (txt []))], []⟩ : Tr)) (old := kept ++ ts.drop j) (aK_ gl) (by omega) ?_ hold (fun t ht => by rw [(mem_replicate.1 ht).2]; exact ⟨rfl, rfl⟩) ⟨1, fun t ht => ?_⟩ ?_ (fun x hx => absurd hx (hnil x)) (fun x hx => ?_) (.inl rfl) (by simpa using hl)
  ·rw [← hts]
   exact (perm_append_comm_assoc _ _ _)
  ·rw [(mem_replicate.1 ht).2]
   repeat (first | exact ⟨rfl, rfl⟩ | refine ⟨_, _, [], [], rfl, rfl, ⟨rfl, .inl rfl⟩, ?_⟩)
  ·rw [eq_nil_iff_forall_not_mem.2 hnil]; exact nodup_nil
  ·have h5 : x ≠ l := fun e => (nodup_cons.1 s.one).1 (e ▸ hx)
   have h6 := (s.lows x (mem_cons_of_mem _ hx)).2
   rw [al_ (by omega)]; exact hkeep x h6 h5
 have := hk _ kept.length ts' (by simpa using hl) (fun x q1 q2 => by rw [al_ (by omega)]; exact hkeep x q1 q2) hfin hz2 ?_ (by rw [← hts, take_left', hkp]; rfl)
 ·rw [hz2] at this; exact this
 ·intro x hx
  rw [← hts] at hx
  rcases mem_cons.1 hx with q | q
  ·subst q; simp [cr_]
  ·obtain ⟨f, q1, q2⟩ := mem_flatten.1 q
   obtain ⟨y, q3, rfl⟩ := mem_map.1 q1
   rcases mem_append.1 q3 with q4 | q4
   ·exact kh_ (hold.subset (mem_append_left _ q4)) q2
   ·rcases mem_append.1 q4 with q5 | q5
    ·rw [(mem_replicate.1 q5).2] at q2; cases q2
    ·exact kh_ (mem_of_mem_drop q5) q2
def mz_ (d : List AV) : ac_ := match d with
 | [.val (.string n), .list _ _ es, .val (.string v)] => ⟨n, es.map (fun e => match e with | [.val (.string s)] => s | _ => txt []), v⟩
 | _ => ⟨txt [], [], txt []⟩
theorem nh_ (a : ac_) : mz_ (ac_.cells a) = a := by
 have : (a.Subs.map am_).map (fun e => match e with | [.val (.string s)] => s | _ => txt []) = a.Subs := by
  rw [map_map]
  conv => rhs; rw [← map_id a.Subs]
  exact map_congr_left fun x _ => rfl
 show (⟨a.Name, (a.Subs.map am_).map _, a.Value⟩ : ac_) = a
 rw [this]
def CO_ : LC :=
 .q [.o [.bx 3 93 0, .f 4], .o [.ld 5 3 3, .ln 6 1, .ln 7 2, .c3 8 167 5 6 7, .m 4 8], .ret]
def xv_ : LF := ⟨3, 9, CO_, [.tmp 4]⟩
theorem CE_ : au_ prog Tryz.f166 xv_ := ah_
theorem jM_ (a : ac_) (n : ByteArray) (s : List ByteArray) (ha : ac_.sz a ≤ 1048576) (h : List Row) : aa_ prog 166 [.agg (ac_.cells a), .iptr [.val (.string n)], .iptr [.list 0 1 (s.map am_)]] h (.val (.bool (inN n s a))) := by
 refine aj_ mixed Tryz.func166 CE_ rfl rfl ?_ h
 simp (disch := omega) only [xv_, CO_, ac_.cells, go_sem, reduceEqDiff, Nat.reduceAdd, ↓reduceIte]
 refine aa_.call (fP_ a n s ha _) ?_
 simp (disch := omega) only [go_sem, ↓reduceIte]
 exact af_ _ _
def vQ_ : LC :=
 .q [.o [.bx 4 9 1, .bx 5 28 2], .o [.m 6 0, .m 7 0, .nc 8 7, .fa 9 0 8, .ln 10 9, .s 11 (.mkFunc 166 [] [.tmp 4, .tmp 5]), .c2 12 165 10 11, .nc 13 6, .fa 14 0 13, .st 1 14 12]]
def sK_ : LF := ⟨3, 15, vQ_, []⟩
theorem A9_ : au_ prog Tryz.f137 sK_ := ah_
theorem lz_ {lo l N k off nl m sz : Nat} {E0 : Tag} {es : List (List AV)} {pre post : List AV} {a : AV} {us : List Tr} {H : List Row} {ns : List ac_} {sa : AV} (n : ByteArray) (s : List ByteArray) (hsh : sa = .list 0 1 (s.map am_) ∨ ∃ ls k, sa = .own ls k) (hsa : ∀ H' : List Row, (∀ y, y < H.length → y ≠ nl → H'[y]? = H[y]?) → bh_ H' sa (.list 0 1 (s.map am_))) (hns : an_ ac_.sz ns ≤ 1048576)
 (hrow : H[l]? = some ⟨E0, sz, es⟩) (hN : es.length = N) (he : es[k]? = some (pre ++ a :: post)) (ho : pre.length = off) (hS : Sl a nl m us) (sl : bZ_ lo H 93 3 nl m us) (hfl : l ∉ cr_ nl us) (hd : (us.take m).map Tr.d = ns.map ac_.cells)
 {K : AV → List Row → Prop} (hk : ∀ (H' : List Row) (m' : Nat) (us' : List Tr), H.length ≤ H'.length → (∀ x, x < H.length → x ≠ l → x ≠ nl → H'[x]? = H[x]?) → bZ_ lo H' 93 3 nl m' us' → us'.length = us.length → (∀ x, x ∈ cr_ nl us' → x ∈ cr_ nl us) → (us'.take m').map Tr.d = (cR_ ns n s).map ac_.cells →
  H'[l]? = some ⟨E0, sz, es.set k (pre ++ .sub nl us'.length 0 m' :: post)⟩ → K (.tup []) H') :
 callSem prog 137 [.ptr l N k off, .val (.string n), sa] H K := by
 refine bg_ mixed Tryz.func137 A9_ (bT_ rfl ?_)
 have hll := (List.getElem?_eq_some_iff.1 hrow).1
 have hnl := sl.lt
 have hne : l ≠ nl := fun q => hfl (by subst q; exact mem_cons_self)
 have hle := sl.le
 have hml : m = ns.length := by
  have := congrArg List.length hd
  rw [length_map, length_map, length_take] at this
  omega
 have hm : m ≤ 1048576 := by rw [hml]; exact aA_ hns
 have d1 : (pre ++ a :: post).drop off = a :: post := by rw [← ho]; simp
 have d2 : ∀ b : AV, (pre ++ b :: post).length = off + (post.length + 1) := fun b => by rw [← ho]; simp
 have d3 : (pre ++ a :: post).take off = pre := by rw [← ho]; simp
 have d4 : (pre ++ a :: post).drop (off + 1) = post := by rw [← ho, ← drop_drop]; simp
 have sl2 : bZ_ lo (H ++ [⟨.ty 9, 1, [[.val (.string n)]]⟩, ⟨.ty 28, 1, [[sa]]⟩]) 93 3 nl m us := sl.more (aD_.app _ _)
 have hp : ∀ H' : List Row, (H ++ [⟨.ty 9, 1, [[.val (.string n)]]⟩, ⟨.ty 28, 1, [[sa]]⟩] : List Row).length ≤ H'.length → (∀ x, x < (H ++ [⟨.ty 9, 1, [[.val (.string n)]]⟩, ⟨.ty 28, 1, [[sa]]⟩] : List Row).length → x ≠ nl → H'[x]? = (H ++ [⟨.ty 9, 1, [[.val (.string n)]]⟩, ⟨.ty 28, 1, [[sa]]⟩] : List Row)[x]?) →
  ∀ t ∈ us.take m, m2_ prog 166 [.agg t.c, .ptr H.length 1 0 0, .ptr (H.length + 1) 1 0 0] H' (.val (.bool (inN n s (mz_ t.d)))) := by
  intro H' h1 h2 t ht
  have h3 : t.d ∈ ns.map ac_.cells := by rw [← hd]; exact mem_map.2 ⟨t, ht, rfl⟩
  obtain ⟨x, hx, e⟩ := mem_map.1 h3
  have ht2 : t ∈ us := mem_of_mem_take ht
  have ha : ca_ H' (.agg t.c) (.agg (ac_.cells x)) := by
   rw [e]
   refine (sl2.arg ht2 fun y hy => h2 y ?_ ?_).any
   ·exact (sl2.lows y (kh_ ht2 hy)).2
   ·intro q; subst q; exact sl2.apart ht2 hy
  rw [← e, nh_]
  refine aa_.quiet (aa_.anyR rfl (fun Hh => jM_ x n s (cq_ hns hx) Hh) (bc_.cons ha (bc_.cons (ca_.box (E := .ty 9) (sz := 1) ?_ (ca_.same rfl)) (bc_.cons (ca_.box (E := .ty 28) (sz := 1) ?_ (hsa H' fun y g1 g2 => by rw [h2 y (by simp; omega) g2, aE_ g1]).any) bc_.nil))))
  ·rw [h2 _ (by simp) (by omega)]; exact aU_ rfl
  ·rw [h2 _ (by simp) (by omega)]; exact cc_ rfl
 have fin : ∀ (H' : List Row) (m' : Nat) (us' : List Tr), (H ++ [⟨.ty 9, 1, [[.val (.string n)]]⟩, ⟨.ty 28, 1, [[sa]]⟩] : List Row).length ≤ H'.length → (∀ x, x < (H ++ [⟨.ty 9, 1, [[.val (.string n)]]⟩, ⟨.ty 28, 1, [[sa]]⟩] : List Row).length → x ≠ nl → H'[x]? = (H ++ [⟨.ty 9, 1, [[.val (.string n)]]⟩, ⟨.ty 28, 1, [[sa]]⟩] : List Row)[x]?) →
  bZ_ lo H' 93 3 nl m' us' → us'.length = us.length → (∀ x, x ∈ cr_ nl us' → x ∈ cr_ nl us) → us'.take m' = (us.take m).filter (fun t => !inN n s (mz_ t.d)) →
  H'[l]? = some ⟨E0, sz, es⟩ ∧ K (.tup []) (H'.set l ⟨E0, sz, es.set k (pre ++ .sub nl us'.length 0 m' :: post)⟩) := by
  intro H' m' us' h1 h2 h3 h4 h5 h6
  have h1' : H.length + 2 ≤ H'.length := by simpa using h1
  refine ⟨by rw [h2 l (by simp; omega) hne, aE_ hll]; exact hrow, hk _ m' us' (by rw [ls_]; omega) (fun x q1 q2 q3 => ?_) (h3.keep (fun x hx => al_ (fun q => ?_)) (by simp)) h4 h5 ?_ (aK_ (by omega))⟩
  ·rw [al_ (Ne.symm q2), h2 x (by simp; omega) q3, aE_ q1]
  ·subst q
   have := h5 l hx
   exact hfl this
  ·rw [h6, cR_]
   have : ∀ (ts : List Tr) (xs : List ac_), ts.map Tr.d = xs.map ac_.cells → (ts.filter fun t => !inN n s (mz_ t.d)).map Tr.d = (xs.filter fun a => !inN n s a).map ac_.cells := by
    intro ts
    induction ts with
    | nil => intro xs h; cases xs with
     | nil => rfl
     | cons x xs => simp at h
    | cons t ts ih =>
     intro xs h
     cases xs with
     | nil => simp at h
     | cons x xs =>
      simp only [map_cons, List.cons.injEq] at h
      have e : mz_ t.d = x := by rw [h.1, nh_]
      simp only [filter_cons, e]
      split
      ·simp only [map_cons, h.1, ih xs h.2]
      ·exact ih xs h.2
   exact this _ _ hd
 rcases hS with rfl | ⟨rfl, rfl⟩
 ·rcases hsh with rfl | ⟨ls, ks, rfl⟩
  all_goals
   simp (disch := (first | omega | (simp only [ls_, la_, lc_, ln_]; first | done | omega))) only [aE_, go_sem, reduceEqDiff, reduceCtorEq, ↓reduceIte, sK_, vQ_, hrow, hN, he, d1, Nat.add_zero]
   refine d7_ sl2 (fun t => inN n s (mz_ t.d)) 166 _ hm (by kernel_rfl) hp (fun H' m' us' h1 h2 h3 h4 h5 h6 => ?_)
   obtain ⟨r1, r2⟩ := fin H' m' us' h1 h2 h3 h4 h5 h6
   simp (disch := (first | omega | (simp only [ls_, la_, lc_, ln_]; first | done | omega))) only [go_sem, reduceEqDiff, ↓reduceIte, r1, hN, he, d2, d3, d4, Nat.add_zero]
   exact ⟨by omega, [], rfl, r2⟩
 ·rcases hsh with rfl | ⟨ls, ks, rfl⟩
  all_goals
   simp (disch := (first | omega | (simp only [ls_, la_, lc_, ln_]; first | done | omega))) only [aE_, go_sem, reduceEqDiff, reduceCtorEq, ↓reduceIte, sK_, vQ_, hrow, hN, he, d1, Nat.add_zero]
   refine callSem.own_sub ?_
   refine d7_ sl2 (fun t => inN n s (mz_ t.d)) 166 _ hm (by kernel_rfl) hp (fun H' m' us' h1 h2 h3 h4 h5 h6 => ?_)
   obtain ⟨r1, r2⟩ := fin H' m' us' h1 h2 h3 h4 h5 h6
   simp (disch := (first | omega | (simp only [ls_, la_, lc_, ln_]; first | done | omega))) only [go_sem, reduceEqDiff, ↓reduceIte, r1, hN, he, d2, d3, d4, Nat.add_zero]
   exact ⟨by omega, [], rfl, r2⟩
theorem vs_ {α : Type} (a b : List α) (x : α) : (a ++ x :: b).Perm ([x] ++ (a ++ b)) := perm_middle
section
variable {lo E sz l m : Nat} {H H' : List Row} {ts : List Tr} {t' : Tr}
structure pk_ (lo : Nat) (H : List Row) (sz l lv : Nat) (ts : List Tr) (t' : Tr) : Prop where
 wide : t'.c.length = sz ∧ t'.c.all AV.cell = true
 tree : ∃ k, aL_ (Own H k) t'.c t'.d t'.f
 one : t'.f.Nodup
 off : ∀ x ∈ t'.f, x ∉ cr_ l ts ∧ x ≠ lv ∧ lo ≤ x ∧ x < H.length
theorem bZ_.insert (s : bZ_ lo H E sz l m ts) {lv : Nat} (e : pk_ lo H sz l lv ts t') {l' m' : Nat} {A B : List Tr} (hAB : (A ++ B).Sublist ts) (hrow : H'[l']? = some ⟨.ty E, sz, (A ++ t' :: B).map Tr.c⟩) (hle : m' ≤ (A ++ t' :: B).length)
 (hk : ∀ x, x < H.length → x ≠ l → H'[x]? = H[x]?) (hl : l' = l ∨ H.length ≤ l') (hlen : H.length ≤ H'.length) : bZ_ lo H' E sz l' m' (A ++ t' :: B) := by
 obtain ⟨k, ht⟩ := e.tree
 have hkf : ∀ x ∈ t'.f, H'[x]? = H[x]? := fun x hx => by
  obtain ⟨h1, h2, h3, h4⟩ := e.off x hx
  exact hk x h4 (fun q => h1 (by rw [q]; exact mem_cons_self))
 refine s.renew hrow hle (vs_ A B t') hAB (fun t q => ?_) ⟨k, fun t q => ?_⟩ ?_ (fun x hx => ?_) (fun x hx => ?_) hl hlen
 ·simp only [mem_singleton] at q; subst q; exact e.wide
 ·simp only [mem_singleton] at q; subst q
  exact aL_.mono (fun a r g hg ho => ho.keep fun x hx => hkf x (hg x hx)) ht
 ·simp only [map_cons, map_nil, flatten_cons, flatten_nil, append_nil]; exact e.one
 ·simp only [map_cons, map_nil, flatten_cons, flatten_nil, append_nil] at hx
  obtain ⟨h1, h2, h3, h4⟩ := e.off x hx
  refine ⟨h1, fun q => ?_, h3, by omega⟩
  rcases hl with q2 | q2
  ·exact h1 (by rw [q, q2]; exact mem_cons_self)
  ·omega
 ·have h5 : x ≠ l := fun q => (nodup_cons.1 s.one).1 (q ▸ hx)
  exact hk x (s.lows x (mem_cons_of_mem _ hx)).2 h5
theorem rp_ {l' : Nat} {A B : List Tr} (hAB : (A ++ B).Sublist ts) (hl : l' = l ∨ H.length ≤ l') : ∀ x ∈ cr_ l' (A ++ t' :: B), x ∈ cr_ l ts ∨ x ∈ t'.f ∨ H.length ≤ x := by
 intro x hx
 have hsub : ∀ t ∈ A ++ B, t ∈ ts := fun t q => hAB.subset q
 simp only [cr_, map_append, map_cons, flatten_append, flatten_cons, mem_cons, mem_append] at hx
 have old : ∀ (C : List Tr), (∀ t ∈ C, t ∈ ts) → x ∈ (C.map Tr.f).flatten → x ∈ cr_ l ts := fun C hC q => by
  obtain ⟨f, q1, q2⟩ := mem_flatten.1 q
  obtain ⟨t, q3, rfl⟩ := mem_map.1 q1
  exact kh_ (hC t q3) q2
 rcases hx with q | q | q | q
 ·rcases hl with e | e
  ·left; rw [q, e]; exact mem_cons_self
  ·right; right; omega
 ·exact .inl (old A (fun t z => hsub t (mem_append_left _ z)) q)
 ·exact .inr (.inl q)
 ·exact .inl (old B (fun t z => hsub t (mem_append_right _ z)) q)
end
theorem pk_.of {lo a b sz l lv : Nat} {H : List Row} {ts : List Tr} {cs ds : List AV} (hF : ak_ a b H cs ds) (hd : ds.length = sz ∧ ∀ r ∈ ds, r.cell = true) (ha : ∀ y ∈ cr_ l ts, y < a) (hlo : lo ≤ a) (hv : b ≤ lv) (hb : b ≤ H.length) : ∃ f, pk_ lo H sz l lv ts ⟨cs, ds, f⟩ ∧ ∀ y ∈ f, a ≤ y := by
 obtain ⟨n, f, h1, h2, h3⟩ := hF
 obtain ⟨q1, q2⟩ := h1.cells_of hd.2
 exact ⟨f, ⟨⟨q1.trans hd.1, q2⟩, ⟨n, h1⟩, h2, fun x hx => by
  have := h3 x hx
  exact ⟨fun q => by have := ha x q; omega, by omega, by omega, by omega⟩⟩, fun y hy => (h3 y hy).1⟩
theorem rO_ {α : Type} {es : List α} {i m : Nat} (hi : i < m) : (List.take (m + 1 - (i + 1)) (List.drop i (List.take (m + 1) es))) = (es.take m).drop i := by
 rw [drop_take, drop_take, take_take]
 congr 1; omega
theorem wl_ {α : Type} {es : List α} {v : α} {i m N : Nat} (hN : es.length = N) (hi : i < m) (hm : m < N) :
 List.take i (List.take (i + 1) es ++ (List.take (m + 1 - (i + 1)) (List.drop i (List.take (m + 1) es)) ++ List.drop (i + 1 + min (min (m + 1) N - i) (m + 1 - (i + 1))) es)) ++
  (List.take (m + 1 - i) [v] ++ List.drop (i + min 1 (m + 1 - i)) (List.take (i + 1) es ++ (List.take (m + 1 - (i + 1)) (List.drop i (List.take (m + 1) es)) ++ List.drop (i + 1 + min (min (m + 1) N - i) (m + 1 - (i + 1))) es))) =
 es.take i ++ v :: ((es.take m).drop i ++ es.drop (m + 1)) := by
 have e1 : i + 1 + min (min (m + 1) N - i) (m + 1 - (i + 1)) = m + 1 := by omega
 have e2 : i + min 1 (m + 1 - i) = i + 1 := by omega
 have e3 : List.take (m + 1 - i) [v] = [v] := take_of_length_le (by simp; omega)
 have e4 : (List.take (i + 1) es).length = i + 1 := by rw [length_take]; omega
 rw [e1, e2, e3, rO_ hi, take_append_of_le_length (by omega), take_take, Nat.min_eq_left (by omega), drop_left' e4]
 rfl
theorem vz_ {α : Type} {es Z : List α} {v : α} {i cap : Nat} (hN : es.length = cap) (hi : i < cap) (hZ : Z.length = cap + 1 - i) :
 List.take (i + 1) (List.take i (List.take i es ++ Z) ++ (List.take (cap + 1 - i) [v] ++ List.drop (i + min 1 (cap + 1 - i)) (List.take i es ++ Z))) ++
  (List.take (cap + 1 - (i + 1)) (List.drop i (List.take cap es)) ++ List.drop (i + 1 + min (min cap cap - i) (cap + 1 - (i + 1))) (List.take i (List.take i es ++ Z) ++ (List.take (cap + 1 - i) [v] ++ List.drop (i + min 1 (cap + 1 - i)) (List.take i es ++ Z)))) =
 es.take i ++ v :: es.drop i := by
 have e0 : (List.take i es).length = i := by rw [length_take]; omega
 have e1 : i + 1 + min (min cap cap - i) (cap + 1 - (i + 1)) = cap + 1 := by omega
 have e2 : i + min 1 (cap + 1 - i) = i + 1 := by omega
 have e3 : List.take (cap + 1 - i) [v] = [v] := take_of_length_le (by simp; omega)
 have e4 : List.take cap es = es := take_of_length_le (by omega)
 have e5 : List.take (cap + 1 - (i + 1)) (List.drop i es) = es.drop i := take_of_length_le (by rw [length_drop]; omega)
 have e6 : List.take i (List.take i es ++ Z) = es.take i := take_left' e0
 have e7 : ∀ W : List α, List.take (i + 1) (List.take i es ++ ([v] ++ W)) = es.take i ++ [v] := fun W => by
  rw [← append_assoc]
  exact take_left' (by rw [la_, e0]; rfl)
 have e8 : List.drop (cap + 1) (List.take i es ++ ([v] ++ List.drop (i + 1) (List.take i es ++ Z))) = [] := drop_eq_nil_of_le (by simp only [la_, length_drop, length_take, lc_, ln_, hZ]; omega)
 rw [e1, e2, e3, e4, e5, e6, e7, e8, append_nil]
 simp
def qt_ : LC :=
 .q [.o [.nl 6], .o [.m 10 0, .m 11 1, .s 12 (.sliceSl 3 (.tmp 10) (some (.tmp 11)) none)], .o [.m 13 2, .ll 14 13, .m 7 14], .q [.o [.m 15 7, .bk 16 .eql false 15 0], .k 16 (.q [.o [.m 17 0, .m 6 17], .ret]) .skip], .o
 [.m 18 0, .ll 19 18, .m 8 19], .q [.o [.m 20 1, .m 21 8, .bb 22 .eql false 20 21], .k 22 (.q [.o [.m 23 0, .m 24 2, .ap 25 93 3 56 23 24, .m 6 25], .ret]) .skip], .q [.o [.m 26 8, .m 27 7, .bb 28 .add false 26 27, .m 29
 0, .s 30 (.capSl (.tmp 29)), .bb 31 .gtr false 28 30], .k 31 (.q [.o [.m 32 0, .m 33 1, .s 34 (.sliceSl 3 (.tmp 32) none (some (.tmp 33))), .m 35 8, .m 36 7, .bb 37 .add false 35 36, .m 38 1, .bb 39 .sub false 37 38, .s
 40 (.appendZ 93 3 56 (.agg #[.string ⟨#[]⟩, .slice none 0 0, .string ⟨#[]⟩]) (.tmp 34) (.tmp 39)), .m 9 40], .o [.m 41 9, .m 42 1, .s 43 (.sliceSl 3 (.tmp 41) (some (.tmp 42)) none), .m 44 2, .s 45 (.copySl 3 (.tmp 43)
 (.tmp 44))], .gops [.m 46 9, .m 47 1, .m 48 7, .bb 49 .add false 47 48, .s 50 (.sliceSl 3 (.tmp 46) (some (.tmp 49)) none), .m 51 0, .m 52 1, .s 53 (.sliceSl 3 (.tmp 51) (some (.tmp 52)) none)] [(.s 54 (.copySl 3 (.tmp
 50) (.tmp 53)), [])], .o [.m 55 9, .m 6 55], .ret]) .skip], .o [.m 56 0, .m 57 8, .m 58 7, .bb 59 .add false 57 58, .s 60 (.sliceSl 3 (.tmp 56) none (some (.tmp 59))), .m 0 60], .q [.o [.m 61 2, .m 62 0, .m 63 1, .m 64
 7, .bb 65 .add false 63 64, .s 66 (.sliceSl 3 (.tmp 62) (some (.tmp 65)) none), .s 67 (.ovl (.tmp 61) (.tmp 66)), .nt 68 67], .k 68 (.q [.gops [.m 69 0, .m 70 1, .m 71 7, .bb 72 .add false 70 71, .s 73 (.sliceSl 3 (.tmp
 69) (some (.tmp 72)) none), .m 74 0, .m 75 1, .s 76 (.sliceSl 3 (.tmp 74) (some (.tmp 75)) none)] [(.s 77 (.copySl 3 (.tmp 73) (.tmp 76)), [])], .o [.m 78 0, .m 79 1, .s 80 (.sliceSl 3 (.tmp 78) (some (.tmp 79)) none),
 .m 81 2, .s 82 (.copySl 3 (.tmp 80) (.tmp 81))], .o [.m 83 0, .m 6 83], .ret]) .skip], .o [.m 84 0, .m 85 8, .s 86 (.sliceSl 3 (.tmp 84) (some (.tmp 85)) none), .m 87 2, .s 88 (.copySl 3 (.tmp 86) (.tmp 87))], .o [.m 89
 0, .m 90 1, .s 91 (.sliceSl 3 (.tmp 89) (some (.tmp 90)) none), .m 92 7, .c2 93 187 91 92], .o [.m 94 0, .m 6 94], .ret]
def nl_ : LF := ⟨3, 95, qt_, [.tmp 6]⟩
theorem ts_ : au_ Tryz.prog Tryz.f164 nl_ := ah_
theorem tY_ (a b : Nat) : Nat.min a b = min a b := rfl
theorem uc_ {α : Type} {es : List α} {j : α} {n : Nat} (h : es.length = n) : (es ++ [j]).take n = es := by rw [← h, take_left']; rfl
theorem eA_ {l N m lv i : Nat} {H : List Row} {es : List (List AV)} {v : List AV} (hr : H[l]? = some ⟨.ty 93, 3, es⟩) (hN : es.length = N) (hm : m < N) (hi : i ≤ m) (hm2 : m ≤ 1048575) (hc : ∀ e ∈ es.take m, e.all AV.cell = true) (hv : H[lv]? = some ⟨.ty 93, 3, [v]⟩) (hvc : v.all AV.cell = true) (hlv : lv ≠ l)
 {K : AV → List Row → Prop} (hk : K (.sub l N 0 (m + 1)) (H.set l ⟨.ty 93, 3, es.take i ++ v :: ((es.take m).drop i ++ es.drop (m + 1))⟩)) : callSem Tryz.prog 164 [.sub l N 0 m, .val (.int .i64 i), .own lv 1] H K := by
 refine bg_ mixed Tryz.func164 ts_ (bT_ rfl ?_)
 have hll := (List.getElem?_eq_some_iff.1 hr).1
 have hvl := (List.getElem?_eq_some_iff.1 hv).1
 by_cases him : i = m
 ·subst him
  have e1 : (es.take i).drop i = [] := drop_eq_nil_of_le (by rw [length_take]; omega)
  rw [e1, nil_append] at hk
  have e2 : i + 1 ≤ N := hm
  simp (disch := (first | omega | (simp only [ls_, la_, lc_, ln_]; first | done | omega))) only [go_sem, reduceEqDiff, reduceLeDiff, reduceCtorEq, ↓reduceIte, nl_, qt_, hr, hv, hN, hvc, e2, Nat.sub_zero, Nat.zero_add]
  exact ⟨by omega, by omega, by omega, hk⟩
 ·have him' : ((i : Int) = (m : Int)) = False := eq_false (by omega)
  simp (disch := (first | omega | (simp only [ls_, la_, lc_, ln_]; first | done | omega))) only [go_sem, reduceEqDiff, reduceCtorEq, ↓reduceIte, nl_, qt_, hr, hv, hN, him', Nat.sub_zero, Nat.zero_add]
  intro cap hcap
  have hcf : ((cap : Int) < (m : Int) + ((1 : Nat) : Int)) = False := eq_false (by omega)
  have hm1 : m + 1 ≤ N := hm
  have htm : ((m : Int) + ((1 : Nat) : Int)).toNat = m + 1 := by omega
  have hti : ((i : Int) + ((1 : Nat) : Int)).toNat = i + 1 := by omega
  simp (disch := (first | omega | (simp only [ls_, la_, lc_, ln_]; first | done | omega))) only [al_, aK_, go_sem, reduceEqDiff, reduceLeDiff, reduceCtorEq, ↓reduceIte, hcf, htm, hti, hr, hv, hN, hm1, Nat.sub_zero, Nat.zero_add, la_, length_take, length_drop, lc_, ln_, tY_, if_pos]
  refine ⟨hlv, hi, fun e he => ?_, by omega, by omega, fun e he => ?_, ?_⟩
  ·rw [rO_ (by omega)] at he
   exact hc e (mem_of_mem_drop he)
  ·have := mem_of_mem_take he
   simp only [mem_singleton] at this
   subst this; exact hvc
  ·rw [set_set]
   exact (congrArg (fun z => K (.sub l N 0 (m + 1)) (H.set l ⟨.ty 93, 3, z⟩)) (wl_ hN (by omega) hm)).mpr hk
theorem gY_ {l N lv i : Nat} {H : List Row} {es : List (List AV)} {v : List AV} (hr : H[l]? = some ⟨.full 93, 3, es⟩) (hN : es.length = N) (hi : i ≤ N) (hm2 : N ≤ 1048575) (hc : ∀ e ∈ es, e.all AV.cell = true) (hv : H[lv]? = some ⟨.ty 93, 3, [v]⟩) (hvc : v.all AV.cell = true) (hlv : lv ≠ l)
 {K : AV → List Row → Prop} (hk : K (.own H.length (N + 1)) (H ++ [⟨.ty 93, 3, es.take i ++ v :: es.drop i⟩])) : callSem Tryz.prog 164 [.sub l N 0 N, .val (.int .i64 i), .own lv 1] H K := by
 refine bg_ mixed Tryz.func164 ts_ (bT_ rfl ?_)
 have hll := (List.getElem?_eq_some_iff.1 hr).1
 have hvl := (List.getElem?_eq_some_iff.1 hv).1
 by_cases him : i = N
 ·subst him
  simp (disch := (first | omega | (simp only [ls_, la_, lc_, ln_]; first | done | omega))) only [go_sem, reduceEqDiff, reduceLeDiff, reduceCtorEq, ↓reduceIte, nl_, qt_, hr, hv, hN, hvc, Nat.sub_zero, Nat.zero_add]
  rw [← hN, take_length, drop_length] at *
  exact ⟨by omega, by omega, by omega, hk⟩
 ·have him' : ((i : Int) = (N : Int)) = False := eq_false (by omega)
  simp (disch := (first | omega | (simp only [ls_, la_, lc_, ln_]; first | done | omega))) only [go_sem, reduceEqDiff, reduceCtorEq, ↓reduceIte, nl_, qt_, hr, hv, hN, him', Nat.sub_zero, Nat.zero_add]
  intro cap hcap1 hcap
  subst hcap
  have hcf : ((cap : Int) < (cap : Int) + ((1 : Nat) : Int)) = True := eq_true (by omega)
  have htm : ((cap : Int) + ((1 : Nat) : Int) - (i : Int)).toNat = cap + 1 - i := by omega
  have hti : ((i : Int) + ((1 : Nat) : Int)).toNat = i + 1 := by omega
  simp (disch := (first | omega | (simp only [ls_, la_, lc_, ln_]; first | done | omega))) only [aE_, aU_, go_sem, reduceEqDiff, reduceCtorEq, ↓reduceIte, hcf, htm, hti, hr, hv, hN, Nat.sub_zero, Nat.zero_add, la_, length_take, length_drop, lc_, ln_, length_replicate, tY_, if_pos]
  have hn : i + (cap + 1 - i) = cap + 1 := by omega
  rw [hn]
  refine ⟨by omega, by omega, by omega, by omega, by omega, by omega, by omega, fun e he => ?_, by omega, by omega, fun e he => ?_, ?_⟩
  ·have := mem_of_mem_take he
   simp only [mem_singleton] at this
   subst this; exact hvc
  ·exact hc e (mem_of_mem_take (mem_of_mem_drop (mem_of_mem_take he)))
  ·refine (congrArg (fun z => K (.own H.length (cap + 1)) (H ++ [⟨.ty 93, 3, z⟩])) (vz_ hN (by omega) ?_)).mpr hk
   exact length_replicate
theorem hC_ {lo l m lv i a b : Nat} {H : List Row} {ts : List Tr} {cs ds : List AV} (s : bZ_ lo H 93 3 l m ts) (hi : i ≤ m) (hm : m ≤ 1048575) (hv : H[lv]? = some ⟨.ty 93, 3, [cs]⟩) (hF : ak_ a b H cs ds) (hd : ds.length = 3 ∧ ∀ r ∈ ds, r.cell = true) (ha : ∀ y ∈ cr_ l ts, y < a) (hla : lo ≤ a) (hab : a ≤ b) (hbv : b ≤ lv) {K : AV → List Row → Prop}
 (hk : ∀ (av : AV) (H' : List Row) (l' : Nat) (ts' : List Tr), H.length ≤ H'.length → (∀ x, x < H.length → x ≠ l → H'[x]? = H[x]?) → bZ_ lo H' 93 3 l' (m + 1) ts' → Sl av l' (m + 1) ts' → (ts'.take (m + 1)).map Tr.d = ((ts.take m).map Tr.d).take i ++ ds :: ((ts.take m).map Tr.d).drop i → (∀ y ∈ cr_ l' ts', y ∈ cr_ l ts ∨ a ≤ y) → K av H') :
 callSem Tryz.prog 164 [.sub l ts.length 0 m, .val (.int .i64 i), .own lv 1] H K := by
 have hr := s.row
 have hll := s.lt
 have hle := s.le
 have hvl := (List.getElem?_eq_some_iff.1 hv).1
 have hlv : lv ≠ l := fun q => by
  have := ha l mem_cons_self
  omega
 obtain ⟨f, e, hfa⟩ := pk_.of (lv := lv) hF hd ha hla hbv (by omega)
 have hft : ∀ {l' : Nat} {A B : List Tr}, (A ++ B).Sublist ts → (l' = l ∨ H.length ≤ l') → ∀ y ∈ cr_ l' (A ++ ⟨cs, ds, f⟩ :: B), y ∈ cr_ l ts ∨ a ≤ y := fun {l' A B} h1 h2 y hy => by
  rcases rp_ h1 h2 y hy with q | q | q
  ·exact .inl q
  ·exact .inr (hfa y q)
  ·exact .inr (by omega)
 obtain ⟨hw1, hw2⟩ := e.wide
 have hwc : ∀ x ∈ ts.map Tr.c, x.all AV.cell = true := fun x hx => by
  obtain ⟨t, ht, rfl⟩ := mem_map.1 hx
  exact (s.wide t ht).2
 have hdat : ∀ (C : List Tr), C.take (m + 1) = ts.take i ++ ⟨cs, ds, f⟩ :: (ts.take m).drop i → (C.take (m + 1)).map Tr.d = ((ts.take m).map Tr.d).take i ++ ds :: ((ts.take m).map Tr.d).drop i := fun C q => by
  rw [q, map_append, map_cons, map_drop, ← map_take, take_take, Nat.min_eq_left hi]
 by_cases hmN : m < ts.length
 ·refine eA_ hr (by simp) hmN hi hm (fun x hx => hwc x (mem_of_mem_take hx)) hv hw2 hlv ?_
  have hrow : (ts.map Tr.c).take i ++ cs :: (((ts.map Tr.c).take m).drop i ++ (ts.map Tr.c).drop (m + 1)) = (ts.take i ++ ⟨cs, ds, f⟩ :: ((ts.take m).drop i ++ ts.drop (m + 1))).map Tr.c := by
   simp only [map_append, map_cons, map_take, map_drop]
  have hsub : (ts.take i ++ ((ts.take m).drop i ++ ts.drop (m + 1))).Sublist ts := by
   rw [← append_assoc]
   have e1 : ts.take i ++ (ts.take m).drop i = ts.take m := by
    have := take_append_drop i (ts.take m)
    rwa [take_take, Nat.min_eq_left hi] at this
   rw [e1]
   have e2 : (ts.take m ++ ts.drop (m + 1)).Sublist (ts.take m ++ ts.drop m) := List.Sublist.append (List.Sublist.refl _) (by rw [← drop_drop]; exact drop_sublist _ _)
   rwa [take_append_drop] at e2
  have hlen : (ts.take i ++ (⟨cs, ds, f⟩ : Tr) :: ((ts.take m).drop i ++ ts.drop (m + 1))).length = ts.length := by
   simp only [la_, lc_, length_take, length_drop]; omega
  rw [hrow]
  have hs := bZ_.insert s (H' := H.set l ⟨.ty 93, 3, (ts.take i ++ ⟨cs, ds, f⟩ :: ((ts.take m).drop i ++ ts.drop (m + 1))).map Tr.c⟩) (m' := m + 1) e hsub (aK_ hll) (by omega) (fun x q1 q2 => al_ (Ne.symm q2)) (.inl rfl) (by simp)
  refine hk _ _ l (ts.take i ++ ⟨cs, ds, f⟩ :: ((ts.take m).drop i ++ ts.drop (m + 1))) (by simp) (fun x q1 q2 => al_ (Ne.symm q2)) hs (.inl (by rw [hlen])) (hdat _ ?_) (hft hsub (.inl rfl))
  have e3 : m + 1 = (ts.take i ++ (⟨cs, ds, f⟩ : Tr) :: (ts.take m).drop i).length := by
   simp only [la_, lc_, length_take, length_drop]; omega
  have e4 : ts.take i ++ (⟨cs, ds, f⟩ : Tr) :: ((ts.take m).drop i ++ ts.drop (m + 1)) = (ts.take i ++ (⟨cs, ds, f⟩ : Tr) :: (ts.take m).drop i) ++ ts.drop (m + 1) := by simp
  rw [e4, take_left' e3.symm]
 ·have hmN' : m = ts.length := by omega
  subst hmN'
  have hsub : (ts.take i ++ ts.drop i).Sublist ts := by rw [take_append_drop]; exact List.Sublist.refl _
  have hrow : (ts.map Tr.c).take i ++ cs :: (ts.map Tr.c).drop i = (ts.take i ++ ⟨cs, ds, f⟩ :: ts.drop i).map Tr.c := by
   simp only [map_append, map_cons, map_take, map_drop]
  have hlen : (ts.take i ++ (⟨cs, ds, f⟩ : Tr) :: ts.drop i).length = ts.length + 1 := by
   simp only [la_, lc_, length_take, length_drop]; omega
  have htk : (ts.take i ++ (⟨cs, ds, f⟩ : Tr) :: ts.drop i).take (ts.length + 1) = ts.take i ++ ⟨cs, ds, f⟩ :: (ts.take ts.length).drop i := by rw [take_of_length_le (by omega), take_length]
  refine sZ_ hr (by simp) (by decide) ?_ ?_
  ·have jt : (ts.map Tr.c ++ [List.replicate 3 AV.undef]).take ts.length = ts.map Tr.c := uc_ (by simp)
   refine eA_ (N := ts.length + 1) (m := ts.length) (es := ts.map Tr.c ++ [List.replicate 3 .undef]) (aK_ hll) (by simp) (by omega) hi hm (fun x hx => hwc x ?_) (by rw [al_ (Ne.symm hlv)]; exact hv) hw2 hlv ?_
   ·rwa [jt] at hx
   ·rw [jt]
    have e5 : (ts.map Tr.c ++ [List.replicate 3 AV.undef]).take i = (ts.map Tr.c).take i := by rw [take_append_of_le_length (by simp; omega)]
    have e6 : (ts.map Tr.c ++ [List.replicate 3 AV.undef]).drop (ts.length + 1) = [] := drop_eq_nil_of_le (by simp)
    rw [e5, e6, append_nil, set_set, hrow]
    have hs := bZ_.insert s (H' := H.set l ⟨.ty 93, 3, (ts.take i ++ ⟨cs, ds, f⟩ :: ts.drop i).map Tr.c⟩) (m' := ts.length + 1) e hsub (aK_ hll) (by omega) (fun x q1 q2 => al_ (Ne.symm q2)) (.inl rfl) (by simp)
    exact hk _ _ l (ts.take i ++ ⟨cs, ds, f⟩ :: ts.drop i) (by simp) (fun x q1 q2 => al_ (Ne.symm q2)) hs (.inl (by rw [hlen])) (hdat _ htk) (hft hsub (.inl rfl))
  ·refine gY_ (N := ts.length) (es := ts.map Tr.c) (aK_ hll) (by simp) hi hm hwc (by rw [al_ (Ne.symm hlv)]; exact hv) hw2 hlv ?_
   refine ⟨by rw [aE_ (by simpa using hll)]; exact aK_ hll, ?_⟩
   rw [ls_, hrow]
   have hst : ∀ r1 r2 r3 : Row, H[l]? = some r3 → (H.set l r1 ++ [r2]).set l r3 = H ++ [r2] := fun r1 r2 r3 q => by
    rw [set_append_left _ _ (by simpa using hll), set_set, qK_ q]
   rw [hst _ _ _ hr]
   have hs := bZ_.insert s (l' := H.length) (H' := H ++ [⟨.ty 93, 3, (ts.take i ++ ⟨cs, ds, f⟩ :: ts.drop i).map Tr.c⟩]) (m' := ts.length + 1) e hsub (aU_ rfl) (by omega) (fun x q1 q2 => aE_ q1) (.inr (Nat.le_refl _)) (by simp)
   exact hk _ _ H.length (ts.take i ++ ⟨cs, ds, f⟩ :: ts.drop i) (by simp) (fun x q1 q2 => aE_ q1) hs (.inr ⟨by rw [hlen], hlen.symm⟩) (hdat _ htk) (hft hsub (.inr (Nat.le_refl _)))
theorem yh_ {lo hi l n E sz : Nat} {H : List Row} {ds es : List (List AV)} (h : ay_ lo hi H (.own l n) (.list 0 sz ds)) (hr : H[l]? = some ⟨.ty E, sz, es⟩) (hhi : hi ≤ H.length) (hd : ∀ d ∈ ds, d.length = sz ∧ ∀ r ∈ d, r.cell = true) :
 ∃ ts : List Tr, ts.map Tr.c = es ∧ ts.map Tr.d = ds ∧ bZ_ lo H E sz l ts.length ts ∧ n = ts.length ∧ ∀ y ∈ cr_ l ts, y < hi := by
 obtain ⟨k, fs, h1, h2, h3⟩ := h
 cases k with
 | zero => exact h1.elim
 | succ k =>
  obtain ⟨row, es1, f, q1, q2, q3, q4, rfl⟩ := h1
  rw [hr] at q1
  obtain rfl := Option.some.inj q1
  simp only [AV.list.injEq, true_and] at q4
  subst q4
  obtain ⟨ts, r1, r2, rfl, r4⟩ := a9_.trs q3
  have hl : n = ts.length := by rw [← q2, ← r1]; simp
  refine ⟨ts, r1, r2, ⟨by rw [hr, r1], Nat.le_refl _, fun t ht => ?_, ⟨k, r4⟩, h2, fun y hy => ?_⟩, hl, fun y hy => (h3 y hy).2⟩
  ·obtain ⟨p1, p2⟩ := hd t.d (by rw [← r2]; exact mem_map.2 ⟨t, ht, rfl⟩)
   obtain ⟨p3, p4⟩ := (r4 t ht).cells_of p2
   exact ⟨p3.trans p1, p4⟩
  ·have := h3 y hy; omega
structure TB2 (L lo : Nat) (H : List Row) (l m : Nat) (ts : List Tr) : Prop where
 box : ∃ a, H[L]? = some ⟨.ty 41, 1, [[a]]⟩ ∧ Sl a l m ts
 at' : bZ_ lo H 93 3 l m ts
 out : L ∉ cr_ l ts
 lt : lo ≤ L
structure eg_ (L lo : Nat) (H : List Row) (x : ad_) : Prop where
 out : ∃ (l m : Nat) (ts : List Tr), TB2 L lo H l m ts ∧ (ts.take m).map Tr.d = x.Nodes.map ac_.cells
theorem yu_ {ts : List Tr} {m : Nat} {ns : List ac_} (hle : m ≤ ts.length) (h : (ts.take m).map Tr.d = ns.map ac_.cells) : m = ns.length := by
 have := congrArg List.length h
 simp only [length_map, length_take] at this
 omega
section
variable {L lo : Nat} {H H' : List Row} {x : ad_}
theorem TB2.lL {l m : Nat} {ts : List Tr} (b : TB2 L lo H l m ts) : L < H.length := by
 obtain ⟨a, o, _⟩ := b.box
 exact (List.getElem?_eq_some_iff.1 o).1
theorem TB2.keep {l m : Nat} {ts : List Tr} (b : TB2 L lo H l m ts) (hk : ∀ y, lo ≤ y → y < H.length → H'[y]? = H[y]?) (hl : H.length ≤ H'.length) : TB2 L lo H' l m ts := by
 have hL := b.lL
 obtain ⟨a, o, hS⟩ := b.box
 exact ⟨⟨a, (hk L b.lt hL).trans o, hS⟩, b.at'.keep (fun y hy => hk y (b.at'.lows y hy).1 (b.at'.lows y hy).2) hl, b.out, b.lt⟩
theorem eg_.keep (B : eg_ L lo H x) (hk : ∀ y, lo ≤ y → y < H.length → H'[y]? = H[y]?) (hl : H.length ≤ H'.length) : eg_ L lo H' x := by
 obtain ⟨l, m, ts, b, d⟩ := B
 exact ⟨l, m, ts, b.keep hk hl, d⟩
theorem eg_.low (B : eg_ L lo H x) : lo ≤ L ∧ L < H.length := by
 obtain ⟨l, m, ts, b, d⟩ := B
 exact ⟨b.lt, b.lL⟩
theorem TB2.more {l m : Nat} {ts : List Tr} (b : TB2 L lo H l m ts) (h : aD_ H H') : TB2 L lo H' l m ts := b.keep (fun y _ q => h.kept y q) h.len
theorem eg_.more (B : eg_ L lo H x) (h : aD_ H H') : eg_ L lo H' x := B.keep (fun y _ q => h.kept y q) h.len
theorem eg_.arg (B : eg_ L lo H x) : ∃ a, H[L]? = some ⟨.ty 41, 1, [[a]]⟩ ∧ a.cell = true ∧ ay_ lo H.length H (.agg [a]) (.agg (ad_.cells x)) := by
 obtain ⟨l, m, ts, b, d⟩ := B
 obtain ⟨a, h1, h2⟩ := b.box
 have h3 := b.at'.freshS h2
 rw [d] at h3
 have := b.at'.lows l mem_cons_self
 exact ⟨a, h1, h2.cell, ay_.agg (ak_.cons h3 (ak_.nil _ _ _) ⟨by omega, Nat.le_refl _⟩)⟩
theorem eg_.of {l n hi : Nat} {es : List (List AV)} (hL : H[L]? = some ⟨.ty 41, 1, [[.own l n]]⟩) (hlt : lo ≤ L) (hhi : hi ≤ L) (hF : ay_ lo hi H (.agg [.own l n]) (.agg (ad_.cells x))) (hr : H[l]? = some ⟨.ty 93, 3, es⟩) : eg_ L lo H x := by
 have hL2 := (List.getElem?_eq_some_iff.1 hL).1
 have h1 : ay_ lo hi H (.own l n) (.list 0 3 (x.Nodes.map ac_.cells)) := hF.unagg.head
 obtain ⟨ts, e1, e2, s, e3, e4⟩ := yh_ h1 hr (by omega) (fun d hd => by
  obtain ⟨a, _, q⟩ := mem_map.1 hd; subst q
  refine ⟨rfl, fun r hr => ?_⟩
  simp only [ac_.cells, mem_cons, not_mem_nil, or_false] at hr
  rcases hr with rfl | rfl | rfl <;> rfl)
 subst e3
 exact ⟨l, ts.length, ts, ⟨⟨_, hL, .inr ⟨rfl, rfl⟩⟩, s, fun q => by have := e4 L q; omega, hlt⟩, by rw [take_length]; exact e2⟩
theorem yz_ {l m : Nat} {ts : List Tr} (s : bZ_ lo H 93 3 l m ts) (hd : (ts.take m).map Tr.d = x.Nodes.map ac_.cells) {k : Nat} (hk : k < m) (hkt : k < ts.length) (hkx : k < x.Nodes.length) :
 ∃ b, ts[k].c = [.val (.string x.Nodes[k].Name), b, .val (.string x.Nodes[k].Value)] ∧ ts[k].d = ac_.cells x.Nodes[k] ∧ b.cell = true := by
 obtain ⟨kk, htree⟩ := s.tree
 have ht := htree ts[k] (getElem_mem hkt)
 have hdd : ts[k].d = ac_.cells x.Nodes[k] := by
  have := congrArg (fun z => z[k]?) hd
  simp only [getElem?_map, getElem?_take, if_pos hk, getElem?_eq_getElem hkt, getElem?_eq_getElem hkx, Option.map_some, Option.some.injEq] at this
  exact this
 have ec : ac_.cells x.Nodes[k] = [.val (.string x.Nodes[k].Name), .list 0 1 (x.Nodes[k].Subs.map am_), .val (.string x.Nodes[k].Value)] := rfl
 rw [hdd, ec] at ht
 obtain ⟨c1, e1, ht⟩ := ht.inv_val
 obtain ⟨c2, c3, g, g', e2, e3, ho, ht⟩ := ht.inv_cons
 obtain ⟨c4, e4, ht⟩ := ht.inv_val
 obtain ⟨e5, e6⟩ := ht.inv_nil
 subst e5 e6 e4 e2
 exact ⟨c2, e1, hdd, ho.cell_list⟩
end
def c83 : LC :=
 .q [.o [.s 2 (.mov (.const (.string ⟨#[]⟩)))], .q [.o [.m 3 0, .c1 4 110 3, .nt 5 4], .k 5 (.q [.o [.s 2 (.mov (.const (.string ⟨#[]⟩)))], .ret]) .skip], .o [.m 6 0, .c1 7 111 6, .m 2 7], .ret]
def Cm_ : LF := ⟨1, 8, c83, [.tmp 2]⟩
theorem D5_ : au_ prog Tryz.f83 Cm_ := ah_
theorem nn_ (xs : List ByteArray) (hx : xs.length ≤ 1048576) (h : List Row) : aa_ prog 83 [.list 0 1 (xs.map am_)] h (.val (.string (txt (jb_ xs)))) := by
 refine aj_ mixed Tryz.func83 D5_ rfl rfl ?_ h
 simp (disch := omega) only [Cm_, c83, go_sem, reduceCtorEq, ↓reduceIte]
 repeat' (first
  | exact af_ _ _
  | (refine bz_ ?_; simp [jb_, *]; done)
  | simp (disch := omega) only [go_sem, reduceCtorEq, ↓reduceIte]
  | (refine aa_.call (d3_ _ hx _) ?_)
  | (refine aa_.q (d3_ _ hx _) ?_)
  | (refine aa_.call (bU_ _ hx _) ?_)
  | (refine aa_.q (bU_ _ hx _) ?_)
  | (refine aa_.call (g1_ _ (by assumption) _) ?_)
  | (refine aa_.q (g1_ _ (by assumption) _) ?_)
  | ((first | (apply a1_; assumption) | (apply a0_; assumption) | (apply be_; assumption) | (apply bd_; assumption)); intro hb; try simp only [hb])
  | ((first | (apply aM_; assumption) | (apply aN_; assumption) | (apply aX_; assumption) | (apply aY_; assumption)); intro hb; try simp only [hb])
  | ((first | apply aG_ | apply aJ_ | apply ao_ | apply ar_) <;> intro hb <;> (try simp only [hb]) <;> (first | have hp := a8_ hb | have hp := a6_ hb | have hp := a7_ hb | have hp := a5_ hb | skip)))
def gB_ (s : List ByteArray) : Bool := decide (0 < (s.length : Int)) && decide ((s.length : Int) ≤ 4) && bm_ (b2_ s) && (decide (dT_ s = txt []) || b0_ (dT_ s))
def wt_ : LC :=
 .q [.o [.f 2], .o [.m 4 0, .ll 5 4, .m 3 5], .o [.m 6 3, .bk 7 .gtr false 6 0, .m 8 7, .gm 9 8 true 3, .g 10 8 true (.bin .leq false (.tmp 9) (.const (.int .i64 4))), .pf 11 8 10, .m 12 11, .gm 13 12 true 0, .gm 14 12
 true 3, .g 15 12 true (.bin .sub false (.tmp 14) (.const (.int .i64 1))), .g 16 12 true (.sliceSl 1 (.tmp 13) none (some (.tmp 15))), .gc 17 12 true 76 16, .pf 18 12 17, .m 19 18, .gm 20 19 true 0, .gm 21 19 true 3, .g
 22 19 true (.bin .sub false (.tmp 21) (.const (.int .i64 1))), .g 23 19 true (.indexAddr 1 (.tmp 20) (.tmp 22)), .gn 24 19 true 23, .g 25 19 true (.bin .eql false (.tmp 24) (.const (.string ⟨#[]⟩))), .gm 26 19 true 25,
 .gm 27 26 false 0, .gm 28 26 false 3, .g 29 26 false (.bin .sub false (.tmp 28) (.const (.int .i64 1))), .g 30 26 false (.indexAddr 1 (.tmp 27) (.tmp 29)), .gn 31 26 false 30, .gc 32 26 false 74 31, .g 33 19 true (.pick
 (.tmp 26) (.const (.bool true)) (.tmp 32)), .pf 34 19 33, .m 2 34], .ret]
def td_ : LF := ⟨1, 35, wt_, [.tmp 2]⟩
theorem BR_ : au_ prog Tryz.f116 td_ := ah_
theorem io_ (s : List ByteArray) (hs : s.length ≤ 1048576) (h : List Row) : aa_ prog 116 [.list 0 1 (s.map am_)] h (.val (.bool (gB_ s))) := by
 refine aj_ mixed Tryz.func116 BR_ rfl rfl ?_ h
 by_cases h0 : 0 < s.length
 case neg =>
  have h0' : ((0 : Int) < (s.length : Int)) = False := eq_false (by omega)
  simp (disch := omega) only [td_, wt_, h0', go_sem, reduceEqDiff, reduceCtorEq, ↓reduceIte]
  exact ae_ (by simp [gB_, h0])
 have h0' : ((0 : Int) < (s.length : Int)) = True := eq_true (by omega)
 have hfr : s.take (s.length - 1) = b2_ s := rfl
 have hfl : (b2_ s).length ≤ 1048576 := by rw [b2_, length_take]; omega
 have hn1 : (s.length : Int) - 1 = ((s.length - 1 : Nat) : Int) := by omega
 have hlt : s.length - 1 < s.length := by omega
 have hle : s.length - 1 ≤ s.length := by omega
 simp (disch := omega) only [td_, wt_, h0', go_sem, reduceEqDiff, reduceCtorEq, ↓reduceIte]
 repeat' (first
  | exact af_ _ _
  | (refine ae_ ?_; simp only [gB_, *, Bool.true_and, Bool.and_false, Bool.false_and, Bool.true_or, Bool.false_or, decide_true, decide_false, Bool.and_self]; done)
  | (refine ae_ ?_; simp [gB_, *]; done)
  | simp (disch := omega) only [hn1, hle, fj_, hfr, gg_, am_, bN_, go_sem, reduceEqDiff, reduceCtorEq, ↓reduceIte]
  | (refine aa_.call (bU_ _ hfl _) ?_)
  | (refine aa_.q (bU_ _ hfl _) ?_)
  | (refine aa_.call (dZ_ _ _) ?_)
  | (refine aa_.q (dZ_ _ _) ?_)
  | ((first | (apply a1_; assumption) | (apply a0_; assumption) | (apply be_; assumption) | (apply bd_; assumption)); intro hb; try simp only [hb])
  | ((first | (apply aM_; assumption) | (apply aN_; assumption) | (apply aX_; assumption) | (apply aY_; assumption)); intro hb; try simp only [hb])
  | ((first | apply aG_ | apply aJ_ | apply ao_ | apply ar_) <;> intro hb <;> (try simp only [hb]) <;> (first | have hp := a8_ hb | have hp := a6_ hb | have hp := a7_ hb | have hp := a5_ hb | skip)))
def c81 : LC :=
 .q [.o [.bx 4 41 0, .s 8 (.mov (.const (.string ⟨#[]⟩)))], .q [.o [.ld 9 1 4, .c1 10 29 9, .nt 11 10, .m 12 11, .gm 13 12 false 1, .gc 14 12 false 107 13, .gu 15 12 false 14, .pt 16 12 15, .m 17 16, .gm 18 17 false 2,
 .gc 19 17 false 116 18, .gu 20 17 false 19, .pt 21 17 20], .k 21 (.q [.o [.s 8 (.mov (.const (.string ⟨#[]⟩)))], .ret]) .skip], .o [.ld 22 1 4, .m 23 1, .m 24 2, .m 25 3, .s 26 (.call 117 [.tmp 22, .tmp 23, .tmp 24, .tmp
 25]), .m 8 26], .ret]
def Bx_ : LF := ⟨4, 27, c81, [.tmp 8]⟩
theorem En_ : au_ prog Tryz.f81 Bx_ := ah_
theorem nc_ (x : ad_) (n : ByteArray) (s : List ByteArray) (back : Bool) (hx : ad_.sz x ≤ 1048576) (hn : n.size ≤ 1048576) (hs : an_ ByteArray.size s ≤ 1048576) (ht : aW_ x = true) (h1 : bY_ n = true) (h2 : gB_ s = true) (h0 : 0 < s.length) (h : List Row) : aa_ prog 81 [.agg (ad_.cells x), .val (.string n), .list 0 1 (s.map am_), .val (.bool back)] h (.val (.string (fU_ x n s back))) := by
 refine aj_ mixed Tryz.func81 En_ rfl rfl ?_ h
 simp (disch := omega) only [Bx_, c81, ad_.cells, go_sem, reduceEqDiff, ↓reduceIte]
 repeat' (first
  | exact af_ _ _
  | simp (disch := omega) only [ht, h1, h2, go_sem, reduceEqDiff, ↓reduceIte]
  | (refine aa_.call (show aa_ prog 29 [.agg [.list 0 3 (x.Nodes.map ac_.cells)]] _ _ from cM_ x hx _) ?_)
  | (refine aa_.q (show aa_ prog 29 [.agg [.list 0 3 (x.Nodes.map ac_.cells)]] _ _ from cM_ x hx _) ?_)
  | (refine aa_.call (bS_ _ hn _) ?_)
  | (refine aa_.q (bS_ _ hn _) ?_)
  | (refine aa_.call (io_ _ (aA_ hs) _) ?_)
  | (refine aa_.q (io_ _ (aA_ hs) _) ?_)
  | (refine aa_.call (show aa_ prog 117 [.agg [.list 0 3 (x.Nodes.map ac_.cells)], .val (.string n), .list 0 1 (s.map am_), .val (.bool back)] _ _ from ig_ x n s back hx hs h0 _) ?_)
  | (refine aa_.q (show aa_ prog 117 [.agg [.list 0 3 (x.Nodes.map ac_.cells)], .val (.string n), .list 0 1 (s.map am_), .val (.bool back)] _ _ from ig_ x n s back hx hs h0 _) ?_)
  | ((first | (apply a1_; assumption) | (apply a0_; assumption) | (apply be_; assumption) | (apply bd_; assumption)); intro hb; try simp only [hb])
  | ((first | (apply aM_; assumption) | (apply aN_; assumption) | (apply aX_; assumption) | (apply aY_; assumption)); intro hb; try simp only [hb])
  | ((first | apply aG_ | apply aJ_ | apply ao_ | apply ar_) <;> intro hb <;> (try simp only [hb]) <;> (first | have hp := a8_ hb | have hp := a6_ hb | have hp := a7_ hb | have hp := a5_ hb | skip)))
def c49 : LC :=
 .q [.o [.bx 1 44 0, .s 2 (.alloc 44 (.agg #[.int .i64 0, .string ⟨#[]⟩, .slice none 0 0, .string ⟨#[]⟩, .int .i64 0]))], .o [.fa 3 2 1, .ln 4 3, .c1 5 102 4, .fa 6 2 1, .st 1 6 5], .o [.ld 7 5 1, .st 5 2 7], .ret]
def zt_ : LF := ⟨1, 8, c49, [.cell 2 (some 5)]⟩
theorem Ef_ : au_ prog Tryz.f49 zt_ := ah_
def c39 : LC :=
 .q [.o [.bx 1 44 0, .s 2 (.alloc 44 (.agg #[.int .i64 0, .string ⟨#[]⟩, .slice none 0 0, .string ⟨#[]⟩, .int .i64 0]))], .o [.fa 3 2 1, .ln 4 3, .c1 5 86 4, .fa 6 2 1, .st 1 6 5], .o [.ld 7 5 1, .st 5 2 7], .ret]
def Cu_ : LF := ⟨1, 8, c39, [.cell 2 (some 5)]⟩
theorem Dk_ : au_ prog Tryz.f39 Cu_ := ah_
theorem gu_ (x : ab_) (hx : ab_.sz x ≤ 1048576) : aQ_ prog 49 [.agg (ab_.cells x)] (.agg (ab_.cells x)) (fun a => ∃ l, a = .agg [.val (.int .i64 x.Kind), .val (.string x.Name), .own l x.Subs.length, .val (.string x.Value), .val (.int .i64 x.N)]) := by
 refine bM_ mixed Tryz.func49 Ef_ rfl (fun h0 => ?_)
 have h2 := aA_ (ab_.sz_Subs hx)
 simp (disch := omega) only [zt_, c49, ab_.cells, go_sem, reduceEqDiff, Nat.reduceAdd, ↓reduceIte]
 refine bk_ (b5_ x.Subs h2) (fun av H1 m1 F1 q1 => ?_)
 obtain ⟨l, rfl⟩ := q1
 have p0 := m1.at (i := h0.length) (by rw [b4_]; rfl)
 have p1 := m1.at (i := h0.length + 1) (by rw [bs_]; rfl)
 have l1 := m1.len
 simp only [la_, lc_, ln_] at l1
 have s0 := fun r => fb_ p0 r
 have z1 := fun r : Row => (getElem?_set_ne (l := H1) (a := r) (show h0.length ≠ h0.length + 1 by omega)).trans p1
 have s1 := fun r r' => fb_ (z1 r) r'
 simp (disch := omega) only [p0, s0, z1, s1, go_sem, reduceEqDiff, Nat.reduceAdd, reduceLeDiff, ↓reduceIte]
 refine ⟨⟨(((aD_.app h0 _).trans m1).set (Nat.le_refl _)).set (by omega), ay_.agg (ak_.val _ (ak_.val _ (ak_.cons (mid := H1.length) ((F1.tree.keep (fun y q1 q2 => ?_)).widen (by simp) (Nat.le_refl _)) (ak_.val _ (ak_.val _ (ak_.nil _ _ _))) ⟨by omega, by simp⟩)))⟩, _, rfl⟩
 simp only [la_, lc_, ln_] at q1
 rw [getElem?_set_ne (by omega), getElem?_set_ne (by omega)]
theorem hJ_ (x : ab_) (hx : ab_.sz x ≤ 1048576) : aQ_ prog 39 [.agg (ab_.cells x)] (.agg (ab_.cells x)) (fun a => ∃ l, a = .agg [.val (.int .i64 x.Kind), .val (.string x.Name), .own l x.Subs.length, .val (.string x.Value), .val (.int .i64 x.N)]) := by
 refine bM_ mixed Tryz.func39 Dk_ rfl (fun h0 => ?_)
 have h2 := aA_ (ab_.sz_Subs hx)
 simp (disch := omega) only [Cu_, c39, ab_.cells, go_sem, reduceEqDiff, Nat.reduceAdd, ↓reduceIte]
 refine bk_ (d9_ x.Subs h2) (fun av H1 m1 F1 q1 => ?_)
 obtain ⟨l, rfl⟩ := q1
 have p0 := m1.at (i := h0.length) (by rw [b4_]; rfl)
 have p1 := m1.at (i := h0.length + 1) (by rw [bs_]; rfl)
 have l1 := m1.len
 simp only [la_, lc_, ln_] at l1
 have s0 := fun r => fb_ p0 r
 have z1 := fun r : Row => (getElem?_set_ne (l := H1) (a := r) (show h0.length ≠ h0.length + 1 by omega)).trans p1
 have s1 := fun r r' => fb_ (z1 r) r'
 simp (disch := omega) only [p0, s0, z1, s1, go_sem, reduceEqDiff, Nat.reduceAdd, reduceLeDiff, ↓reduceIte]
 refine ⟨⟨(((aD_.app h0 _).trans m1).set (Nat.le_refl _)).set (by omega), ay_.agg (ak_.val _ (ak_.val _ (ak_.cons (mid := H1.length) ((F1.tree.keep (fun y q1 q2 => ?_)).widen (by simp) (Nat.le_refl _)) (ak_.val _ (ak_.val _ (ak_.nil _ _ _))) ⟨by omega, by simp⟩)))⟩, _, rfl⟩
 simp only [la_, lc_, ln_] at q1
 rw [getElem?_set_ne (by omega), getElem?_set_ne (by omega)]
def jE_ (x : ad_) (e : ab_) : ab_ := if (cQ_ e.Name e.Subs x.Nodes).2 = true then { e with N := 1, Value := txt (jb_ (cQ_ e.Name e.Subs x.Nodes).1) } else { e with N := 0, Value := txt [] }
def bu_ (x : ad_) (e : ab_) : ab_ :=
 if e.Kind = 1 then { e with Value := (fM_ x e.Name e.Subs).1, N := iM_ x e.Name e.Subs }
 else if e.Kind = 4 then { e with N := iM_ x e.Name e.Subs }
 else if e.Kind = 5 then { e with Value := fU_ x e.Name e.Subs (decide (e.N < 0)) }
 else jE_ x e
abbrev gS_ (e : ab_) (a : AV) : Prop := ∃ l v k, a = .agg [.val (.int .i64 e.Kind), .val (.string e.Name), .own l e.Subs.length, .val (.string v), .val (.int .i64 k)]
theorem hj_ {e : ab_} (h : bD_ e = true) (hk : ¬ e.Kind = 5) : cP_ e.Name e.Subs = true := by
 unfold bD_ at h
 rw [if_neg hk] at h
 simp only [Bool.and_eq_true] at h
 simp [cP_, h.1.1, h.2]
theorem jn_ {e : ab_} (h : bD_ e = true) (hk : e.Kind = 5) : bY_ e.Name = true ∧ gB_ e.Subs = true ∧ 0 < e.Subs.length := by
 unfold bD_ at h
 rw [if_pos hk] at h
 simp only [Bool.and_eq_true, decide_eq_true_eq] at h
 obtain ⟨⟨h1, _⟩, h2, h3⟩ := h
 unfold gv_ at h3
 simp only [Bool.and_eq_true, Bool.or_eq_true, decide_eq_true_eq] at h3
 obtain ⟨h4, h5⟩ := h3
 have h0 : 0 < e.Subs.length := by omega
 refine ⟨h1, ?_, h0⟩
 simp only [gB_, Bool.and_eq_true, Bool.or_eq_true, decide_eq_true_eq]
 rcases h5 with h5 | ⟨h5, h6⟩
 ·simp only [bm_, Bool.and_eq_true, decide_eq_true_eq, all_eq_true] at h5 ⊢
  refine ⟨⟨⟨h4, h2⟩, ?_, fun x hx => h5.2 x (mem_of_mem_take hx)⟩, .inr (h5.2 _ ?_)⟩
  ·rw [b2_, length_take]; omega
  ·rw [← gg_ e.Subs (by omega)]; exact getElem_mem _
 ·exact ⟨⟨⟨h4, h2⟩, h6⟩, .inl h5⟩
theorem oD_ (n : ByteArray) (s : List ByteArray) {x : ad_} (hx : ad_.sz x ≤ 1048576) : (cQ_ n s x.Nodes).1.length ≤ 1048576 := by
 have hz := ad_.sz_Nodes hx
 have hm : ∀ a ∈ x.Nodes, ac_.sz a ≤ 1048576 := fun a ha => cq_ hz ha
 clear hz hx
 generalize x.Nodes = ns at hm ⊢
 induction ns with
 | nil => simp [cQ_]
 | cons a r ih =>
  unfold cQ_
  split
  ·exact aA_ (ac_.sz_Subs (hm a (by simp)))
  ·exact ih fun b hb => hm b (by simp [hb])
theorem ub_ {x : ad_} {n : ByteArray} {s : List ByteArray} (h : (fM_ x n s).2 = false) : (fM_ x n s).1 = txt [] := by
 unfold fM_ at h ⊢
 split at h
 ·split at h
  ·cases h
  ·rename_i q1 q2; rw [if_neg q2]
 ·rfl
def Cg_ : LC :=
 .q [.o [.bx 2 41 0, .bx 3 44 1, .s 4 (.alloc 44 (.agg #[.int .i64 0, .string ⟨#[]⟩, .slice none 0 0, .string ⟨#[]⟩, .int .i64 0]))], .o [.ld 8 5 3, .c1 9 49 8, .s 5 (.alloc 44 (.agg #[.int .i64 0, .string ⟨#[]⟩, .slice
 none 0 0, .string ⟨#[]⟩, .int .i64 0])), .st 5 5 9], .q [.o [.fa 10 0 3, .ln 11 10], .block 0 (.q [.o [.bk 13 .eql false 11 1, .m 12 13], .k 12 (.q [.o [.ld 15 1 2, .fa 16 1 3, .ln 17 16, .fa 18 2 3, .ln 19 18, .c3 20
 139 15 17 19, .m 14 20, .ex 21 14 0, .ex 22 14 1, .fa 23 3 5, .st 1 23 21], .o [.ld 24 1 2, .fa 25 1 3, .ln 26 25, .fa 27 2 3, .ln 28 27, .c3 29 140 24 26 28, .fa 30 4 5, .st 1 30 29]]) (.q [.o [.bk 32 .eql false 11 4,
 .m 31 32], .k 31 (.o [.ld 33 1 2, .fa 34 1 3, .ln 35 34, .fa 36 2 3, .ln 37 36, .c3 38 140 33 35 37, .fa 39 4 5, .st 1 39 38]) (.q [.o [.bk 41 .eql false 11 5, .m 40 41], .k 40 (.o [.ld 42 1 2, .fa 43 1 3, .ln 44 43, .fa
 45 2 3, .ln 46 45, .fa 47 4 3, .ln 48 47, .bk 49 .lss false 48 0, .s 50 (.call 141 [.tmp 42, .tmp 44, .tmp 46, .tmp 49]), .fa 51 3 5, .st 1 51 50]) (.q [.o [.bk 53 .eql false 11 6, .m 52 53], .k 52 (.q [.o [.fa 54 4 5,
 .z (.store 1 (.tmp 54) (.const (.int .i64 0))), .fa 55 3 5, .z (.store 1 (.tmp 55) (.const (.string ⟨#[]⟩)))], .o [.ld 57 1 2, .fa 58 1 3, .ln 59 58, .fa 60 2 3, .ln 61 60, .c3 62 142 57 59 61, .m 56 62, .ex 63 56 0, .ex
 64 56 1, .m 6 63, .m 7 64], .o [.m 65 7], .k 65 (.o [.m 66 6, .c1 67 143 66, .fa 68 4 5, .z (.store 1 (.tmp 68) (.const (.int .i64 1))), .fa 69 3 5, .st 1 69 67]) .skip]) .skip])])])])], .o [.ld 70 5 5, .st 5 4 70],
 .ret]
def xq_ : LF := ⟨2, 71, Cg_, [.cell 4 (some 5)]⟩
theorem A2_ : au_ prog Tryz.f101 xq_ := ah_
theorem jH_ (x : ad_) (e : ab_) (hx : ad_.sz x ≤ 1048576) (he : ab_.sz e ≤ 1048576) (ht : aW_ x = true) (hn : bD_ e = true) (hr : bQ_ e = true) : aQ_ prog 101 [.agg (ad_.cells x), .agg (ab_.cells e)] (.agg (ab_.cells (bu_ x e))) (gS_ e) := by
 refine bM_ mixed Tryz.func101 A2_ rfl (fun h0 => ?_)
 have hs := ab_.sz_Subs he
 have hsl := aA_ hs
 have hnm := ab_.sz_Name he
 simp (disch := omega) only [xq_, Cg_, ad_.cells, ab_.cells, go_sem, reduceEqDiff, Nat.reduceAdd, ↓reduceIte]
 refine bk_ (gu_ e he) (fun av H1 m1 F1 q1 => ?_)
 obtain ⟨l, rfl⟩ := q1
 have p0 := m1.at (i := h0.length) (by rw [b4_]; rfl)
 have p1 := m1.at (i := h0.length + 1) (by rw [bs_]; rfl)
 have p2 := m1.at (i := h0.length + 2) (by rw [bs_]; rfl)
 have l1 := m1.len
 simp only [la_, lc_, ln_] at l1
 have m0 := (aD_.app h0 _).trans m1
 have hR : bu_ x e = bu_ x e := rfl
 have fin : ∀ (H' : List Row) (v : ByteArray) (k : Int), v = (bu_ x e).Value → k = (bu_ x e).N → e.Kind = (bu_ x e).Kind → e.Name = (bu_ x e).Name → e.Subs = (bu_ x e).Subs → H1.length ≤ H'.length → (∀ y, h0.length + 3 ≤ y → y < H1.length → H'[y]? = H1[y]?) → aD_ h0 H' →
  Res h0 H' (.agg [.val (.int .i64 e.Kind), .val (.string e.Name), .own l e.Subs.length, .val (.string v), .val (.int .i64 k)]) (.agg (ab_.cells (bu_ x e))) ∧ gS_ e (.agg [.val (.int .i64 e.Kind), .val (.string e.Name), .own l e.Subs.length, .val (.string v), .val (.int .i64 k)]) := by
  intro H' v k e1 e2 e3 e4 e5 hl hk hm
  refine ⟨⟨hm, ?_⟩, l, v, k, rfl⟩
  have hc : ab_.cells (bu_ x e) = [.val (.int .i64 e.Kind), .val (.string e.Name), .list 0 1 (e.Subs.map am_), .val (.string v), .val (.int .i64 k)] := by
   rw [ab_.cells, ← e1, ← e2, ← e3, ← e4, ← e5]
  rw [hc]
  have F2 := F1.tree.unagg.rest.rest.head
  refine ay_.agg (ak_.val _ (ak_.val _ (ak_.cons (mid := H1.length) ((F2.keep (fun y q1 q2 => hk y ?_ q2)).widen (by simp) (Nat.le_refl _)) (ak_.val _ (ak_.val _ (ak_.nil _ _ _))) ⟨by omega, hl⟩)))
  simp only [la_, lc_, ln_] at q1
  omega
 have fin2 : ∀ (H' : List Row) (v : ByteArray) (k : Int), { e with Value := v, N := k } = bu_ x e → H1.length ≤ H'.length → (∀ y, h0.length + 3 ≤ y → y < H1.length → H'[y]? = H1[y]?) → aD_ h0 H' →
  Res h0 H' (.agg [.val (.int .i64 e.Kind), .val (.string e.Name), .own l e.Subs.length, .val (.string v), .val (.int .i64 k)]) (.agg (ab_.cells (bu_ x e))) ∧ gS_ e (.agg [.val (.int .i64 e.Kind), .val (.string e.Name), .own l e.Subs.length, .val (.string v), .val (.int .i64 k)]) :=
  fun H' v k q => fin H' v k (by rw [← q]) (by rw [← q]) (by rw [← q]) (by rw [← q]) (by rw [← q])
 by_cases k1 : e.Kind = 1
 ·simp (disch := (first | omega | (simp only [ls_, la_, lc_, ln_]; first | done | omega))) only [aK_, aE_, aU_, ag_, go_sem, reduceEqDiff, Nat.reduceAdd, reduceLeDiff, ↓reduceIte, p0, p1, p2, k1, Int.reduceEq]
  refine aa_.call (mu_ x e.Name e.Subs hx hs ht _) ?_
  simp (disch := (first | omega | (simp only [ls_, la_, lc_, ln_]; first | done | omega))) only [aE_, aU_, go_sem, reduceEqDiff, Nat.reduceAdd, reduceLeDiff, ↓reduceIte, p0, p1, k1]
  refine aa_.call (hK_ x e.Name e.Subs hx hsl _) ?_
  simp (disch := (first | omega | (simp only [ls_, la_, lc_, ln_]; first | done | omega))) only [aK_, aE_, aU_, go_sem, reduceEqDiff, Nat.reduceAdd, ↓reduceIte, p2]
  rw [← k1]
  refine fin2 _ _ _ (by simp [bu_, k1]) (by simp) (fun y q1 q2 => by rw [al_ (by omega), aE_ (by omega)]) ((m0.add _).set (by omega))
 by_cases k4 : e.Kind = 4
 ·simp (disch := (first | omega | (simp only [ls_, la_, lc_, ln_]; first | done | omega))) only [aK_, aE_, aU_, ag_, go_sem, reduceEqDiff, Nat.reduceAdd, reduceLeDiff, ↓reduceIte, p0, p1, p2, k4, Int.reduceEq]
  refine aa_.call (hK_ x e.Name e.Subs hx hsl _) ?_
  simp (disch := (first | omega | (simp only [ls_, la_, lc_, ln_]; first | done | omega))) only [aK_, aE_, aU_, go_sem, reduceEqDiff, Nat.reduceAdd, ↓reduceIte, p2]
  rw [← k4]
  refine fin2 _ _ _ (by simp [bu_, k4]) (by simp) (fun y q1 q2 => by rw [al_ (by omega), aE_ (by omega)]) ((m0.add _).set (by omega))
 by_cases k5 : e.Kind = 5
 ·obtain ⟨_, _, hpos⟩ := jn_ hn k5
  simp (disch := (first | omega | (simp only [ls_, la_, lc_, ln_]; first | done | omega))) only [aK_, aE_, aU_, ag_, go_sem, reduceEqDiff, Nat.reduceAdd, reduceLeDiff, ↓reduceIte, p0, p1, p2, k5, Int.reduceEq]
  refine aa_.call (show aa_ prog 141 [.agg [.list 0 3 (x.Nodes.map ac_.cells)], .val (.string e.Name), .list 0 1 (e.Subs.map am_), .val (.bool _)] _ _ from k5_ x e.Name e.Subs _ hx hs hpos _) ?_
  simp (disch := (first | omega | (simp only [ls_, la_, lc_, ln_]; first | done | omega))) only [aK_, aE_, aU_, go_sem, reduceEqDiff, Nat.reduceAdd, reduceLeDiff, ↓reduceIte, p2]
  rw [← k5]
  refine fin2 _ _ _ (by simp [bu_, k5]) (by simp) (fun y q1 q2 => by rw [al_ (by omega), aE_ (by omega)]) ((m0.add _).set (by omega))
 have k6 : e.Kind = 6 := by
  simp only [bQ_, Bool.or_eq_true, decide_eq_true_eq] at hr
  omega
 have hth := hj_ hn k5
 have hq : c7_ x e.Name e.Subs = cQ_ e.Name e.Subs x.Nodes := by rw [c7_, ht, hth]; rfl
 have hqc : ∀ H, aa_ prog 142 [.agg [.list 0 3 (x.Nodes.map ac_.cells)], .val (.string e.Name), .list 0 1 (e.Subs.map am_)] H (j5_ (cQ_ e.Name e.Subs x.Nodes)) := fun H => by
  have := (lf_ x e.Name e.Subs hx hnm hs).pure rfl H
  rwa [hq] at this
 have hqs := oD_ e.Name e.Subs hx
 simp (disch := (first | omega | (simp only [ls_, la_, lc_, ln_]; first | done | omega))) only [aK_, aE_, aU_, ag_, go_sem, reduceEqDiff, Nat.reduceAdd, reduceLeDiff, ↓reduceIte, p0, p1, p2, k6, Int.reduceEq]
 refine aa_.call (hqc _) ?_
 cases hb : (cQ_ e.Name e.Subs x.Nodes).2
 ·simp (disch := (first | omega | (simp only [ls_, la_, lc_, ln_]; first | done | omega))) only [aK_, aE_, aU_, ag_, go_sem, reduceEqDiff, Nat.reduceAdd, ↓reduceIte, p2, hb]
  rw [← k6]
  refine fin2 _ _ _ (by simp [bu_, k6, jE_, hb]) (by simp) (fun y q1 q2 => by rw [al_ (by omega), aE_ (by omega)]) ((m0.add _).set (by omega))
 ·simp (disch := (first | omega | (simp only [ls_, la_, lc_, ln_]; first | done | omega))) only [aK_, aE_, aU_, ag_, go_sem, reduceEqDiff, Nat.reduceAdd, ↓reduceIte, p2, hb]
  refine aa_.call (i5_ _ hqs _) ?_
  simp (disch := (first | omega | (simp only [ls_, la_, lc_, ln_]; first | done | omega))) only [aK_, aE_, aU_, go_sem, reduceEqDiff, Nat.reduceAdd, reduceLeDiff, ↓reduceIte, p2]
  rw [← k6]
  refine fin2 _ _ _ (by simp [bu_, k6, jE_, hb]) (by simp) (fun y q1 q2 => by rw [al_ (by omega), aE_ (by omega)]) ((m0.add _).set (by omega))
def c35 : LC :=
 .q [.o [.bx 2 41 0, .bx 3 44 1, .s 4 (.alloc 44 (.agg #[.int .i64 0, .string ⟨#[]⟩, .slice none 0 0, .string ⟨#[]⟩, .int .i64 0]))], .o [.ld 9 5 3, .c1 10 39 9, .st 5 3 10], .q [.o [.fa 11 0 3, .ln 12 11], .block 0 (.q
 [.o [.bk 30 .eql false 12 1, .m 29 30], .k 29 (.q [.o [.ld 32 1 2, .fa 33 1 3, .ln 34 33, .fa 35 2 3, .ln 36 35, .c3 37 79 32 34 36, .m 31 37, .ex 38 31 0, .ex 39 31 1, .m 5 38, .m 6 39], .o [.fa 40 3 3, .z (.store 1
 (.tmp 40) (.const (.string ⟨#[]⟩)))], .q [.o [.m 41 6], .k 41 (.o [.m 42 5, .fa 43 3 3, .st 1 43 42]) .skip], .o [.ld 44 1 2, .fa 45 1 3, .ln 46 45, .fa 47 2 3, .ln 48 47, .c3 49 80 44 46 48, .fa 50 4 3, .st 1 50 49]])
 (.q [.o [.bk 52 .eql false 12 4, .m 51 52], .k 51 (.o [.ld 53 1 2, .fa 54 1 3, .ln 55 54, .fa 56 2 3, .ln 57 56, .c3 58 80 53 55 57, .fa 59 4 3, .st 1 59 58]) (.q [.o [.bk 61 .eql false 12 5, .m 60 61], .k 60 (.o [.ld 62
 1 2, .fa 63 1 3, .ln 64 63, .fa 65 2 3, .ln 66 65, .fa 67 4 3, .ln 68 67, .bk 69 .lss false 68 0, .s 70 (.call 81 [.tmp 62, .tmp 64, .tmp 66, .tmp 69]), .fa 71 3 3, .st 1 71 70]) (.q [.o [.ld 14 1 2, .fa 15 1 3, .ln 16
 15, .fa 17 2 3, .ln 18 17, .c3 19 82 14 16 18, .m 13 19, .ex 20 13 0, .ex 21 13 1, .m 7 20, .m 8 21], .o [.fa 22 4 3, .z (.store 1 (.tmp 22) (.const (.int .i64 0)))], .o [.fa 23 3 3, .z (.store 1 (.tmp 23) (.const
 (.string ⟨#[]⟩)))], .o [.m 24 8], .k 24 (.q [.o [.fa 25 4 3, .z (.store 1 (.tmp 25) (.const (.int .i64 1)))], .o [.m 26 7, .c1 27 83 26, .fa 28 3 3, .st 1 28 27]]) .skip])])])])], .o [.ld 72 5 3, .st 5 4 72], .ret]
def Ac_ : LF := ⟨2, 73, c35, [.cell 4 (some 5)]⟩
theorem C2_ : au_ prog Tryz.f35 Ac_ := ah_
theorem kI_ (x : ad_) (e : ab_) (hx : ad_.sz x ≤ 1048576) (he : ab_.sz e ≤ 1048576) (ht : aW_ x = true) (hn : bD_ e = true) (hr : bQ_ e = true) : aQ_ prog 35 [.agg (ad_.cells x), .agg (ab_.cells e)] (.agg (ab_.cells (bu_ x e))) (gS_ e) := by
 refine bM_ mixed Tryz.func35 C2_ rfl (fun h0 => ?_)
 have hs := ab_.sz_Subs he
 have hsl := aA_ hs
 have hnm := ab_.sz_Name he
 simp (disch := omega) only [Ac_, c35, ad_.cells, ab_.cells, go_sem, reduceEqDiff, Nat.reduceAdd, ↓reduceIte]
 refine bk_ (hJ_ e he) (fun av H1 m1 F1 q1 => ?_)
 obtain ⟨l, rfl⟩ := q1
 have p0 := m1.at (i := h0.length) (by rw [b4_]; rfl)
 have p1 := m1.at (i := h0.length + 1) (by rw [bs_]; rfl)
 have p2 := m1.at (i := h0.length + 2) (by rw [bs_]; rfl)
 have l1 := m1.len
 simp only [la_, lc_, ln_] at l1
 have m0 := (aD_.app h0 _).trans m1
 have F2 := F1.tree.unagg.rest.rest.head
 have harg : ∀ H' : List Row, (∀ y, h0.length + 3 ≤ y → y < H1.length → H'[y]? = H1[y]?) → bh_ H' (.own l e.Subs.length) (.list 0 1 (e.Subs.map am_)) := fun H' hk => (F2.keep (fun y q1 q2 => hk y (by simp only [la_, lc_, ln_] at q1; omega) q2)).arg
 have fin : ∀ (H' : List Row) (v : ByteArray) (k : Int), { e with Value := v, N := k } = bu_ x e → H1.length ≤ H'.length → (∀ y, h0.length + 3 ≤ y → y < H1.length → H'[y]? = H1[y]?) → aD_ h0 H' →
  Res h0 H' (.agg [.val (.int .i64 e.Kind), .val (.string e.Name), .own l e.Subs.length, .val (.string v), .val (.int .i64 k)]) (.agg (ab_.cells (bu_ x e))) ∧ gS_ e (.agg [.val (.int .i64 e.Kind), .val (.string e.Name), .own l e.Subs.length, .val (.string v), .val (.int .i64 k)]) := by
  intro H' v k q hl hk hm
  refine ⟨⟨hm, ?_⟩, l, v, k, rfl⟩
  rw [← q]
  refine ay_.agg (ak_.val _ (ak_.val _ (ak_.cons (mid := H1.length) ((F2.keep (fun y q1 q2 => hk y ?_ q2)).widen (by simp) (Nat.le_refl _)) (ak_.val _ (ak_.val _ (ak_.nil _ _ _))) ⟨by omega, hl⟩)))
  simp only [la_, lc_, ln_] at q1
  omega
 have hargs : ∀ H' : List Row, (∀ y, h0.length + 3 ≤ y → y < H1.length → H'[y]? = H1[y]?) → aw_ H' [.agg [.list 0 3 (x.Nodes.map ac_.cells)], .val (.string e.Name), .own l e.Subs.length] [.agg [.list 0 3 (x.Nodes.map ac_.cells)], .val (.string e.Name), .list 0 1 (e.Subs.map am_)] := fun H' hk =>
  .cons (.same rfl) (.cons (.same rfl) (.cons (harg H' hk) .nil))
 by_cases k5 : e.Kind = 5
 ·obtain ⟨hno, hlv, hpos⟩ := jn_ hn k5
  simp (disch := (first | omega | (simp only [ls_, la_, lc_, ln_]; first | done | omega))) only [al_, aK_, ag_, go_sem, reduceEqDiff, Nat.reduceAdd, ↓reduceIte, p0, p1, k5, Int.reduceEq]
  refine aa_.call (aa_.own (fun h => show aa_ prog 81 [.agg [.list 0 3 (x.Nodes.map ac_.cells)], .val (.string e.Name), .list 0 1 (e.Subs.map am_), .val (.bool _)] h _ from nc_ x e.Name e.Subs _ hx hnm hs ht hno hlv hpos h) (.cons (.same rfl) (.cons (.same rfl) (.cons (harg _ ?_) (.cons (.same rfl) .nil))))) ?_
  ·exact fun y q1 q2 => by rw [al_ (by omega)]
  simp (disch := (first | omega | (simp only [ls_, la_, lc_, ln_]; first | done | omega))) only [al_, aK_, go_sem, reduceEqDiff, Nat.reduceAdd, reduceLeDiff, ↓reduceIte, p2]
  rw [← k5]
  exact fin _ _ _ (by simp [bu_, k5]) (by simp) (fun y q1 q2 => by rw [al_ (by omega), al_ (by omega), al_ (by omega)]) (((m0.set (by omega)).set (by omega)).set (by omega))
 have hth := hj_ hn k5
 have hgv : mf_ x e.Name e.Subs = fM_ x e.Name e.Subs := by rw [mf_, ht, hth]; rfl
 have hdv : (if (aW_ x && cP_ e.Name e.Subs) = true then iM_ x e.Name e.Subs else 0) = iM_ x e.Name e.Subs := by rw [ht, hth]; rfl
 have hget : ∀ H', (∀ y, h0.length + 3 ≤ y → y < H1.length → H'[y]? = H1[y]?) → aa_ prog 79 [.agg [.list 0 3 (x.Nodes.map ac_.cells)], .val (.string e.Name), .own l e.Subs.length] H' (n9_ (fM_ x e.Name e.Subs)) := fun H' hk =>
  aa_.ownR rfl (fun h => by rw [← hgv]; exact m5_ x e.Name e.Subs hx hnm hs h) (hargs H' hk)
 have hdat : ∀ H', (∀ y, h0.length + 3 ≤ y → y < H1.length → H'[y]? = H1[y]?) → aa_ prog 80 [.agg [.list 0 3 (x.Nodes.map ac_.cells)], .val (.string e.Name), .own l e.Subs.length] H' (.val (.int .i64 (iM_ x e.Name e.Subs))) := fun H' hk =>
  aa_.ownR rfl (fun h => by rw [← hdv]; exact n4_ x e.Name e.Subs hx hnm hsl h) (hargs H' hk)
 by_cases k1 : e.Kind = 1
 ·simp (disch := (first | omega | (simp only [ls_, la_, lc_, ln_]; first | done | omega))) only [al_, aK_, ag_, go_sem, reduceEqDiff, Nat.reduceAdd, ↓reduceIte, p0, p1, k1, Int.reduceEq]
  refine aa_.call (hget _ (fun y q1 q2 => by rw [al_ (by omega)])) ?_
  cases hb : (fM_ x e.Name e.Subs).2
  ·simp (disch := (first | omega | (simp only [ls_, la_, lc_, ln_]; first | done | omega))) only [al_, aK_, ag_, go_sem, reduceEqDiff, Nat.reduceAdd, reduceLeDiff, ↓reduceIte, p0, hb]
   refine aa_.call (hdat _ (fun y q1 q2 => by rw [al_ (by omega), al_ (by omega)])) ?_
   simp (disch := (first | omega | (simp only [ls_, la_, lc_, ln_]; first | done | omega))) only [al_, aK_, go_sem, reduceEqDiff, Nat.reduceAdd, ↓reduceIte, p2]
   rw [← k1]
   exact fin _ _ _ (by simp [bu_, k1, ub_ hb]) (by simp) (fun y q1 q2 => by rw [al_ (by omega), al_ (by omega), al_ (by omega), al_ (by omega)]) ((((m0.set (by omega)).set (by omega)).set (by omega)).set (by omega))
  ·simp (disch := (first | omega | (simp only [ls_, la_, lc_, ln_]; first | done | omega))) only [al_, aK_, ag_, go_sem, reduceEqDiff, Nat.reduceAdd, reduceLeDiff, ↓reduceIte, p0, hb]
   refine aa_.call (hdat _ (fun y q1 q2 => by rw [al_ (by omega), al_ (by omega), al_ (by omega)])) ?_
   simp (disch := (first | omega | (simp only [ls_, la_, lc_, ln_]; first | done | omega))) only [al_, aK_, go_sem, reduceEqDiff, Nat.reduceAdd, ↓reduceIte, p2]
   rw [← k1]
   exact fin _ _ _ (by simp [bu_, k1]) (by simp) (fun y q1 q2 => by rw [al_ (by omega), al_ (by omega), al_ (by omega), al_ (by omega), al_ (by omega)]) (((((m0.set (by omega)).set (by omega)).set (by omega)).set (by omega)).set (by omega))
 by_cases k4 : e.Kind = 4
 ·simp (disch := (first | omega | (simp only [ls_, la_, lc_, ln_]; first | done | omega))) only [al_, aK_, ag_, go_sem, reduceEqDiff, Nat.reduceAdd, ↓reduceIte, p0, p1, k4, Int.reduceEq]
  refine aa_.call (hdat _ (fun y q1 q2 => by rw [al_ (by omega)])) ?_
  simp (disch := (first | omega | (simp only [ls_, la_, lc_, ln_]; first | done | omega))) only [al_, aK_, go_sem, reduceEqDiff, Nat.reduceAdd, ↓reduceIte, p2]
  rw [← k4]
  exact fin _ _ _ (by simp [bu_, k4]) (by simp) (fun y q1 q2 => by rw [al_ (by omega), al_ (by omega), al_ (by omega)]) (((m0.set (by omega)).set (by omega)).set (by omega))
 have k6 : e.Kind = 6 := by
  simp only [bQ_, Bool.or_eq_true, decide_eq_true_eq] at hr
  omega
 have hq : c7_ x e.Name e.Subs = cQ_ e.Name e.Subs x.Nodes := by rw [c7_, ht, hth]; rfl
 have hqc : aQ_ prog 82 [.agg [.list 0 3 (x.Nodes.map ac_.cells)], .val (.string e.Name), .list 0 1 (e.Subs.map am_)] (j5_ (cQ_ e.Name e.Subs x.Nodes)) (fun a => ∃ b q, a = .tup [b, .val (.bool q)]) := by
  have := lk_ x e.Name e.Subs hx hnm hs
  rwa [hq] at this
 have hqs := oD_ e.Name e.Subs hx
 simp (disch := (first | omega | (simp only [ls_, la_, lc_, ln_]; first | done | omega))) only [al_, aK_, ag_, go_sem, reduceEqDiff, Nat.reduceAdd, ↓reduceIte, p0, p1, k6, Int.reduceEq]
 refine m8_ hqc (hargs _ (fun y q1 q2 => by rw [al_ (by omega)])) (fun av H2 m2 F3 q2 => ?_)
 obtain ⟨b, q, rfl⟩ := q2
 have l2 := m2.len
 rw [ls_] at l2
 have g0 := m2.at (i := h0.length) ((al_ (by omega)).trans p0)
 have g1 := m2.at (aK_ (i := h0.length + 1) (H := H1) (by omega))
 have g2 := m2.at (i := h0.length + 2) ((al_ (by omega)).trans p2)
 have gk : ∀ y, h0.length + 3 ≤ y → y < H1.length → H2[y]? = H1[y]? := fun y q1 q2 => by rw [m2.kept y (by rw [ls_]; exact q2), al_ (by omega)]
 have mm := (m0.set (i := h0.length + 1) (r := _) (by omega)).trans m2
 obtain ⟨hB, hb⟩ := F3.two
 simp only [AV.val.injEq, Value.bool.injEq] at hb
 subst hb
 cases hb : (cQ_ e.Name e.Subs x.Nodes).2
 ·simp (disch := (first | omega | (simp only [ls_, la_, lc_, ln_]; first | done | omega))) only [al_, aK_, ag_, go_sem, reduceEqDiff, Nat.reduceAdd, reduceLeDiff, ↓reduceIte, g1, g2]
  rw [← k6]
  exact fin _ _ _ (by simp [bu_, k6, jE_, hb]) (by simp; omega) (fun y q1 q2 => by rw [al_ (by omega), al_ (by omega), al_ (by omega)]; exact gk y q1 q2) (((mm.set (by omega)).set (by omega)).set (by omega))
 ·simp (disch := (first | omega | (simp only [ls_, la_, lc_, ln_]; first | done | omega))) only [al_, aK_, ag_, go_sem, reduceEqDiff, Nat.reduceAdd, reduceLeDiff, ↓reduceIte, g1, g2]
  refine aa_.call (aa_.own (fun h => nn_ _ hqs h) (.cons (ay_.arg (hB.tree.keep (fun y q1 q2 => ?_))) .nil)) ?_
  ·rw [ls_] at q1
   rw [al_ (by omega), al_ (by omega), al_ (by omega)]
  simp (disch := (first | omega | (simp only [ls_, la_, lc_, ln_]; first | done | omega))) only [al_, aK_, go_sem, reduceEqDiff, Nat.reduceAdd, reduceLeDiff, ↓reduceIte, g2]
  rw [← k6]
  exact fin _ _ _ (by simp [bu_, k6, jE_, hb]) (by simp; omega) (fun y q1 q2 => by rw [al_ (by omega), al_ (by omega), al_ (by omega), al_ (by omega), al_ (by omega)]; exact gk y q1 q2) (((((mm.set (by omega)).set (by omega)).set (by omega)).set (by omega)).set (by omega))
theorem gr_ {x : ad_} (h : aW_ x = true) : x.Nodes.length ≤ 120 ∧ ∀ a ∈ x.Nodes, cA_ a = true := by
 simp only [aW_, Bool.and_eq_true, decide_eq_true_eq] at h
 exact ⟨by omega, (f5_ _ _ h.2).2.2⟩
theorem ik_ {a : ac_} (h : cA_ a = true) : bY_ a.Name = true ∧ bm_ a.Subs = true ∧ a.Value.size ≤ 64 := by
 simp only [cA_, cP_, Bool.and_eq_true, decide_eq_true_eq] at h
 exact ⟨h.1.1, h.1.2, by omega⟩
theorem jk_ {s : ByteArray} (h : bY_ s = true) : s.size ≤ 8 := by
 simp only [bY_, Bool.and_eq_true, decide_eq_true_eq] at h
 omega
theorem l1_ {xs : List ByteArray} (h : bm_ xs = true) : an_ ByteArray.size xs ≤ 100 := by
 obtain ⟨h1, h2⟩ := eR_ h
 have : ∀ ys : List ByteArray, (∀ y ∈ ys, y.size ≤ 24) → b1_ ByteArray.size ys ≤ 24 * ys.length := by
  intro ys
  induction ys with
  | nil => intro _; simp [b1_]
  | cons y ys ih =>
   intro hy
   have := ih fun z hz => hy z (by simp [hz])
   have := hy y (by simp)
   simp only [b1_, lc_]; omega
 have := this xs fun x hx => (h2 x hx).2
 simp only [an_]; omega
theorem rs_ {xs : List ByteArray} (h : gB_ xs = true) : an_ ByteArray.size xs ≤ 100 := by
 simp only [gB_, Bool.and_eq_true, Bool.or_eq_true, decide_eq_true_eq] at h
 obtain ⟨⟨⟨h1, h2⟩, h3⟩, h4⟩ := h
 have h5 := eR_ h3
 have hl : (dT_ xs).size ≤ 24 := by
  rcases h4 with q | q
  ·rw [q]; simp [cf_]
  ·simp only [b0_, Bool.and_eq_true, decide_eq_true_eq] at q; omega
 have hx : ∀ y ∈ xs, y.size ≤ 24 := by
  intro y hy
  obtain ⟨i, hi, rfl⟩ := mem_iff_getElem.1 hy
  by_cases q : i < xs.length - 1
  ·have : xs[i] ∈ b2_ xs := by
    rw [b2_]
    exact mem_iff_getElem.2 ⟨i, by rw [length_take]; omega, by rw [getElem_take]⟩
   exact (h5.2 _ this).2
  ·have e : i = xs.length - 1 := by omega
   subst e
   rw [gg_ xs hi]; exact hl
 have : ∀ ys : List ByteArray, (∀ y ∈ ys, y.size ≤ 24) → b1_ ByteArray.size ys ≤ 24 * ys.length := by
  intro ys
  induction ys with
  | nil => intro _; simp [b1_]
  | cons y ys ih =>
   intro hy
   have := ih fun z hz => hy z (by simp [hz])
   have := hy y (by simp)
   simp only [b1_, lc_]; omega
 have := this xs hx
 simp only [an_]; omega
theorem sw_ {e : ab_} (h : bD_ e = true) : e.Name.size + an_ ByteArray.size e.Subs ≤ 108 := by
 by_cases k5 : e.Kind = 5
 ·obtain ⟨h1, h2, _⟩ := jn_ h k5
  have := jk_ h1
  have := rs_ h2
  omega
 ·have := hj_ h k5
  simp only [cP_, Bool.and_eq_true] at this
  have q1 := jk_ this.1
  have q2 := l1_ this.2
  omega
theorem ug_ {x : ad_} (h : aW_ x = true) (n : ByteArray) (s : List ByteArray) : (fM_ x n s).1.size ≤ 64 := by
 unfold fM_
 split
 ·rename_i a ha
  split
  ·exact (ik_ ((gr_ h).2 a (mem_of_getElem? ha))).2.2
  ·simp [cf_]
 ·simp [cf_]
theorem qJ_ {x : ad_} (h : aW_ x = true) (n : ByteArray) (s : List ByteArray) (back : Bool) : (fU_ x n s back).size ≤ 64 := by
 unfold fU_
 have hn := (gr_ h).2
 generalize s.getD (s.length - 1) (txt []) = last
 have : ∀ (ns : List ac_) (b : ByteArray), (∀ a ∈ ns, cA_ a = true) → b.size ≤ 64 → (ns.foldl (fC_ n s back last) b).size ≤ 64 := by
  intro ns
  induction ns with
  | nil => intro b _ hb; exact hb
  | cons a r ih =>
   intro b ha hb
   rw [foldl_cons]
   refine ih _ (fun c hc => ha c (by simp [hc])) ?_
   unfold fC_
   split
   ·rename_i t ht
    split
    ·have := (eR_ (ik_ (ha a (by simp))).2.1).2 t (mem_of_getElem? ht)
     omega
    ·exact hb
   ·exact hb
 exact this _ _ hn (by simp [cf_])
theorem tL_ (xs : List ByteArray) : (jb_ xs).length ≤ 300 := by
 unfold jb_
 split
 ·rename_i h
  have := eR_ h
  have := kf_ xs (fun x hx => (this.2 x hx).2)
  omega
 ·simp
theorem lR_ {x : ad_} {e : ab_} (ht : aW_ x = true) (hn : bD_ e = true) (hz : ab_.sz e ≤ 1048576) : ab_.sz (bu_ x e) ≤ 1048576 := by
 have h1 := sw_ hn
 have e1 : ∀ a : ab_, ab_.sz a = a.Name.size + an_ ByteArray.size a.Subs + a.Value.size := fun _ => rfl
 rw [e1] at hz ⊢
 unfold bu_ jE_
 have v1 := ug_ ht e.Name e.Subs
 have v2 := qJ_ ht e.Name e.Subs (decide (e.N < 0))
 have v3 := tL_ (cQ_ e.Name e.Subs x.Nodes).1
 (repeat' split) <;> simp only [cf_, ln_] <;> omega
theorem pq_ {e : ab_} (hn : bD_ e = true) (ht : bJ_ e = false) : bQ_ e = true := by
 simp only [bD_, bo_, Bool.and_eq_true] at hn
 simp only [bJ_, Bool.or_eq_false_iff, decide_eq_false_iff_not] at ht
 simp only [bQ_, Bool.or_eq_true, decide_eq_true_eq]
 have h2 := hn.1.2
 by_cases k1 : e.Kind = 1
 ·omega
 by_cases k4 : e.Kind = 4
 ·omega
 by_cases k5 : e.Kind = 5
 ·omega
 by_cases k6 : e.Kind = 6
 ·omega
 ·rw [if_neg k1, if_neg k4, if_neg k5, if_neg k6, if_neg ht.1] at h2
  simp only [Bool.and_eq_true, decide_eq_true_eq] at h2
  omega
def dk_ (xs : List ab_) : Bool := decide ((xs.length : Int) ≤ 60) && xs.all bD_
def Bb_ : LC :=
 .q [.o [.bx 1 44 0, .f 2], .o [.ld 3 5 1, .c1 4 45 3, .nt 5 4, .m 2 5], .ret]
def xl_ : LF := ⟨1, 6, Bb_, [.tmp 2]⟩
theorem CZ_ : au_ prog Tryz.f126 xl_ := ah_
theorem hq_ (x : ab_) (hx : ab_.sz x ≤ 1048576) (h : List Row) : aa_ prog 126 [.agg (ab_.cells x)] h (.val (.bool (!bD_ x))) := by
 refine aj_ mixed Tryz.func126 CZ_ rfl rfl ?_ h
 simp (disch := omega) only [xl_, Bb_, ab_.cells, go_sem, reduceEqDiff, Nat.reduceAdd, ↓reduceIte]
 repeat' (first
  | exact af_ _ _
  | simp (disch := omega) only [go_sem, ↓reduceIte]
  | (refine aa_.call (iV_ x hx _) ?_)
  | (refine aa_.q (iV_ x hx _) ?_)
  | ((first | (apply aM_; assumption) | (apply aN_; assumption) | (apply aX_; assumption) | (apply aY_; assumption)); intro hb; try simp only [hb])
  | ((first | apply ao_ | apply ar_) <;> intro hb <;> (try simp only [hb]) <;> (first | have hp := a8_ hb | have hp := a6_ hb | have hp := a7_ hb | have hp := a5_ hb | skip)))
def y5_ : LC :=
 .q [.o [.ki 4 0], .q [.o [.m 6 0, .ll 7 6, .ki 8 0], .block 0 (.loop (.q [.o [.bb 9 .lss false 8 7], .k 9 .skip (.exit 0), .block 1 (.q [.o [.m 10 8, .m 5 10], .o [.m 11 1, .m 12 0, .m 13 5, .ia 14 5 12 13, .ld 15 5 14,
 .s 16 (.callv (.tmp 11) [.tmp 15])], .k 16 (.q [.o [.m 17 5, .m 4 17], .ret]) .skip]), .o [.bk 18 .add false 8 1, .m 8 18]]))], .o [.s 4 (.mov (.const (.int .i64 (-1))))], .ret]
def w6_ : LF := ⟨2, 19, y5_, [.tmp 4]⟩
theorem yY_ : au_ prog Tryz.f158 w6_ := ah_
theorem gq_ (xs : List ab_) (p : ab_ → Bool) (g : Nat) (hx : xs.length ≤ 1048576) (hc : cC_ prog g = true) (hp : ∀ x ∈ xs, ∀ h, aa_ prog g [.agg (ab_.cells x)] h (.val (.bool (p x)))) (h : List Row) :
 aa_ prog 158 [.list 0 5 (xs.map ab_.cells), .fn g [] []] h (.val (.int .i64 (cp_ p xs 0))) := by
 refine aj_ mixed Tryz.func158 yY_ rfl rfl ?_ h
 simp (disch := omega) only [w6_, y5_, go_sem, reduceCtorEq, Int.reduceNeg, ↓reduceIte]
 refine aP_ (fun n t h => ∃ k : Nat, t 0 = .list 0 5 (xs.map ab_.cells) ∧ t 1 = .fn g [] [] ∧ t 6 = .list 0 5 (xs.map ab_.cells) ∧ t 7 = .val (.int .i64 xs.length) ∧ t 8 = .val (.int .i64 k) ∧ n = xs.length - k ∧ k ≤ xs.length ∧ (cp_ p xs 0 = cp_ p (xs.drop k) k)) (xs.length) ?_ ?_
 ·exact ⟨0, rfl, rfl, rfl, rfl, rfl, rfl, Nat.zero_le _, rfl⟩
 ·rintro J hJ n t h ⟨k, t0, t1, t6, t7, k8, rfl, hk, hS⟩
  by_cases hlt : k < xs.length
  ·skip
   rw [im_ p xs k hlt] at hS
   simp (disch := omega) only [t0, t1, t7, k8, hlt, hc, ab_.cells, go_sem, reduceEqDiff, Nat.reduceAdd, reduceCtorEq, Int.reduceNeg, ↓reduceIte]
   repeat' (first
    | exact af_ _ _
    | exact ⟨xs.length - (k + 1), by omega, hJ _ _ _ ⟨k + 1, by simp [upd, t0], by simp [upd, t1], by simp [upd, t6], by simp [upd, t7], by simp [upd], rfl, by omega, by rw [hS]; simp [*]⟩⟩
    | (refine aF_ ?_; rw [hS]; simp [*]; done)
    | (refine aF_ ?_; rw [hS, fO_ _ _ _ (by omega)])
    | simp (disch := omega) only [k8, go_sem, reduceEqDiff, Int.reduceNeg, ↓reduceIte]
    | (refine aa_.call (hp xs[k] (getElem_mem hlt) _) ?_)
    | (refine aa_.q (hp xs[k] (getElem_mem hlt) _) ?_)
    | ((first | (apply aM_; assumption) | (apply aN_; assumption) | (apply aX_; assumption) | (apply aY_; assumption)); intro hb; try simp only [hb])
    | ((first | apply ao_ | apply ar_) <;> intro hb <;> (try simp only [hb]) <;> (first | have hp := a8_ hb | have hp := a6_ hb | have hp := a7_ hb | have hp := a5_ hb | skip)))
  ·skip
   simp (disch := omega) only [t7, k8, hlt, go_sem, Int.reduceNeg, ↓reduceIte]
   repeat' (first
    | exact af_ _ _
    | (refine aF_ ?_; rw [hS]; simp [*]; done)
    | (refine aF_ ?_; rw [hS, fO_ _ _ _ (by omega)])
    | simp (disch := omega) only [t0, t1, t6, t7, k8, go_sem, reduceEqDiff, Nat.reduceAdd, reduceLeDiff, reduceCtorEq, Int.reduceLT, Int.reduceLE, Int.reduceNeg, Int.reduceSub, Int.reduceAdd, Int.reduceToNat, ↓reduceIte]
    | (refine aa_.call (hp xs[k] (getElem_mem hlt) _) ?_)
    | (refine aa_.q (hp xs[k] (getElem_mem hlt) _) ?_)
    | ((first | (apply aM_; assumption) | (apply aN_; assumption) | (apply aX_; assumption) | (apply aY_; assumption)); intro hb; try simp only [hb])
    | ((first | apply ao_ | apply ar_) <;> intro hb <;> (try simp only [hb]) <;> (first | have hp := a8_ hb | have hp := a6_ hb | have hp := a7_ hb | have hp := a5_ hb | skip)))
def zQ_ : LC :=
 .q [.o [.f 4], .o [.m 5 0, .m 6 1, .c2 7 158 5 6, .bk 8 .geq false 7 0, .m 4 8], .ret]
def xI_ : LF := ⟨2, 9, zQ_, [.tmp 4]⟩
theorem BD_ : au_ prog Tryz.f125 xI_ := ah_
theorem dC_ (xs : List ab_) (p : ab_ → Bool) (g : Nat) (hx : xs.length ≤ 1048576) (hc : cC_ prog g = true) (hp : ∀ x ∈ xs, ∀ h, aa_ prog g [.agg (ab_.cells x)] h (.val (.bool (p x)))) (h : List Row) :
 aa_ prog 125 [.list 0 5 (xs.map ab_.cells), .fn g [] []] h (.val (.bool (xs.any p))) := by
 refine aj_ mixed Tryz.func125 BD_ rfl rfl ?_ h
 simp (disch := omega) only [xI_, zQ_, go_sem, reduceEqDiff, reduceCtorEq, ↓reduceIte]
 refine aa_.call (gq_ xs p g hx hc hp _) ?_
 simp (disch := omega) only [go_sem, ↓reduceIte]
 exact ae_ (l0_ p xs)
def c91 : LC :=
 .q [.o [.f 2], .o [.m 3 0, .ll 4 3, .bk 5 .leq false 4 60, .m 6 5, .gm 7 6 true 0, .g 8 6 true (.call 125 [.tmp 7, .func 126]), .gu 9 6 true 8, .pf 10 6 9, .m 2 10], .ret]
def zR_ : LF := ⟨1, 11, c91, [.tmp 2]⟩
theorem C8_ : au_ prog Tryz.f91 zR_ := ah_
theorem gL_ (xs : List ab_) (hs : an_ ab_.sz xs ≤ 1048576) (h : List Row) : aa_ prog 91 [.list 0 5 (xs.map ab_.cells)] h (.val (.bool (dk_ xs))) := by
 refine aj_ mixed Tryz.func91 C8_ rfl rfl ?_ h
 simp (disch := omega) only [zR_, c91, go_sem, reduceCtorEq, ↓reduceIte]
 repeat' (first
  | exact af_ _ _
  | (refine ae_ ?_; simp only [rN_, dk_, *, Bool.true_and, Bool.false_and, decide_true, decide_false]; done)
  | simp (disch := omega) only [go_sem, reduceEqDiff, reduceCtorEq, ↓reduceIte]
  | (refine aa_.call (dC_ _ (fun s => !bD_ s) 126 (aA_ hs) (by kernel_rfl) (fun x hx h => hq_ x (by have := bP_ (f := ab_.sz) hx; omega) h) _) ?_)
  | (refine aa_.q (dC_ _ (fun s => !bD_ s) 126 (aA_ hs) (by kernel_rfl) (fun x hx h => hq_ x (by have := bP_ (f := ab_.sz) hx; omega) h) _) ?_)
  | ((first | (apply a1_; assumption) | (apply a0_; assumption) | (apply be_; assumption) | (apply bd_; assumption)); intro hb; try simp only [hb])
  | ((first | (apply aM_; assumption) | (apply aN_; assumption) | (apply aX_; assumption) | (apply aY_; assumption)); intro hb; try simp only [hb])
  | ((first | apply aG_ | apply aJ_ | apply ao_ | apply ar_) <;> intro hb <;> (try simp only [hb]) <;> (first | have hp := a8_ hb | have hp := a6_ hb | have hp := a7_ hb | have hp := a5_ hb | skip)))
def c71 : LC :=
 .q [.o [.f 2], .q [.o [.m 4 0, .ll 5 4, .bk 6 .gtr false 5 60], .k 6 (.q [.o [.f 2], .ret]) .skip], .q [.o [.ki 3 0], .block 0 (.loop (.q [.q [.o [.m 7 3, .m 8 0, .ll 9 8, .bb 10 .lss false 7 9], .k 10 .skip (.exit 0)],
 .block 1 (.q [.o [.m 13 0, .m 14 3, .ia 15 5 13 14, .ld 16 5 15, .c1 17 31 16, .nt 18 17], .k 18 (.q [.o [.f 2], .ret]) .skip]), .o [.m 11 3, .bk 12 .add false 11 1, .m 3 12]]))], .o [.t 2], .ret]
def vZ_ : LF := ⟨1, 19, c71, [.tmp 2]⟩
theorem Em_ : au_ prog Tryz.f71 vZ_ := ah_
theorem iy_ (xs : List ab_) (hs : an_ ab_.sz xs ≤ 1048576) (h : List Row) : aa_ prog 71 [.list 0 5 (xs.map ab_.cells)] h (.val (.bool (dk_ xs))) := by
 refine aj_ mixed Tryz.func71 Em_ rfl rfl ?_ h
 have hx := aA_ hs
 have hm : ∀ x ∈ xs, ab_.sz x ≤ 1048576 := fun x hx => by have := bP_ (f := ab_.sz) hx; omega
 by_cases h4 : (xs.length : Int) ≤ 60
 ·have h4' : ((60 : Int) < xs.length) = False := eq_false (by omega)
  have hS0 : dk_ xs = xs.all bD_ := by simp [dk_, h4]
  simp (disch := omega) only [vZ_, c71, h4', go_sem, reduceCtorEq, ↓reduceIte]
  refine aP_ (fun n t h => ∃ k : Nat, t 0 = .list 0 5 (xs.map ab_.cells) ∧ t 3 = .val (.int .i64 k) ∧ n = xs.length - k ∧ k ≤ xs.length ∧ (xs.all bD_ = (xs.drop k).all bD_)) (xs.length) ?_ ?_
  ·exact ⟨0, rfl, rfl, rfl, Nat.zero_le _, rfl⟩
  ·rintro J hJ n t h ⟨k, t0, k3, rfl, hk, hS⟩
   by_cases hlt : k < xs.length
   ·skip
    rw [p8_ bD_ xs k hlt] at hS
    simp (disch := omega) only [t0, k3, hlt, ab_.cells, go_sem, reduceEqDiff, Nat.reduceAdd, reduceCtorEq, ↓reduceIte]
    repeat' (first
     | exact af_ _ _
     | exact ⟨xs.length - (k + 1), by omega, hJ _ _ _ ⟨k + 1, by simp [upd, t0], by simp [upd], rfl, by omega, by rw [hS]; first | (simp only [*, Bool.true_and]; done) | simp [*]⟩⟩
     | (refine ae_ ?_; rw [hS0, hS]; first | (simp only [*, Bool.false_and]; done) | (simp [*]; done))
     | (refine ae_ ?_; rw [hS0, hS, lF_ _ _ _ (by omega)])
     | simp (disch := omega) only [k3, go_sem, reduceEqDiff, ↓reduceIte]
     | (refine aa_.call (fB_ _ (hm _ (getElem_mem hlt)) _) ?_)
     | (refine aa_.q (fB_ _ (hm _ (getElem_mem hlt)) _) ?_)
     | ((first | (apply a1_; assumption) | (apply a0_; assumption) | (apply be_; assumption) | (apply bd_; assumption)); intro hb; try simp only [hb])
     | ((first | (apply aM_; assumption) | (apply aN_; assumption) | (apply aX_; assumption) | (apply aY_; assumption)); intro hb; try simp only [hb])
     | ((first | apply aG_ | apply aJ_ | apply ao_ | apply ar_) <;> intro hb <;> (try simp only [hb]) <;> (first | have hp := a8_ hb | have hp := a6_ hb | have hp := a7_ hb | have hp := a5_ hb | skip)))
   ·skip
    simp (disch := omega) only [t0, k3, hlt, go_sem, reduceEqDiff, reduceCtorEq, ↓reduceIte]
    repeat' (first
     | exact af_ _ _
     | (refine ae_ ?_; rw [hS0, hS]; first | (simp only [*, Bool.and_true, Bool.true_and, Bool.and_false, Bool.false_and, Bool.or_true, Bool.true_or, Bool.or_false, Bool.false_or, Bool.not_true, Bool.not_false, decide_true, decide_false, Bool.and_self, Bool.or_self]; done) | (simp [*]; done))
     | (refine ae_ ?_; rw [hS0, hS, lF_ _ _ _ (by omega)])
     | simp (disch := omega) only [t0, k3, go_sem, reduceEqDiff, Nat.reduceAdd, reduceLeDiff, reduceCtorEq, Int.reduceLT, Int.reduceLE, Int.reduceNeg, Int.reduceSub, Int.reduceAdd, Int.reduceToNat, ↓reduceIte]
     | (refine aa_.call (fB_ _ (hm _ (getElem_mem hlt)) _) ?_)
     | (refine aa_.q (fB_ _ (hm _ (getElem_mem hlt)) _) ?_)
     | ((first | (apply a1_; assumption) | (apply a0_; assumption) | (apply be_; assumption) | (apply bd_; assumption)); intro hb; try simp only [hb])
     | ((first | (apply aM_; assumption) | (apply aN_; assumption) | (apply aX_; assumption) | (apply aY_; assumption)); intro hb; try simp only [hb])
     | ((first | apply aG_ | apply aJ_ | apply ao_ | apply ar_) <;> intro hb <;> (try simp only [hb]) <;> (first | have hp := a8_ hb | have hp := a6_ hb | have hp := a7_ hb | have hp := a5_ hb | skip)))
 ·have h4' : ((60 : Int) < xs.length) = True := eq_true (by omega)
  simp (disch := omega) only [vZ_, c71, h4', go_sem, reduceCtorEq, ↓reduceIte]
  exact ae_ (by simp [dk_, h4])
def c9_ (x : av_) : Bool := ds_ x.Depth 0 3 && ds_ x.Restarts 0 4 && dk_ x.Events && (decide (0 < x.Depth) || decide (x.Restarts = 0) && decide ((x.Events.length : Int) = 0))
def c44 : LC :=
 .q [.o [.bx 1 36 0, .f 2], .q [.o [.fa 3 0 1, .ln 4 3, .s 5 (.call 90 [.tmp 4, .const (.int .i64 0), .const (.int .i64 3)]), .nt 6 5, .m 7 6, .gf 8 7 false 1 1, .gn 9 7 false 8, .g 10 7 false (.call 90 [.tmp 9, .const
 (.int .i64 0), .const (.int .i64 4)]), .gu 11 7 false 10, .pt 12 7 11, .m 13 12, .gf 14 13 false 2 1, .gn 15 13 false 14, .gc 16 13 false 91 15, .gu 17 13 false 16, .pt 18 13 17], .k 18 (.q [.o [.f 2], .ret]) .skip], .o
 [.fa 19 0 1, .ln 20 19, .bk 21 .gtr false 20 0, .m 22 21, .gf 23 22 false 1 1, .gn 24 22 false 23, .g 25 22 false (.bin .eql false (.tmp 24) (.const (.int .i64 0))), .gm 26 22 false 25, .gf 27 26 true 2 1, .gn 28 26 true
 27, .g 29 26 true (.lenSl (.tmp 28)), .g 30 26 true (.bin .eql false (.tmp 29) (.const (.int .i64 0))), .g 31 22 false (.pick (.tmp 26) (.tmp 30) (.const (.bool false))), .pt 32 22 31, .m 2 32], .ret]
def A5_ : LF := ⟨1, 33, c44, [.tmp 2]⟩
theorem Di_ : au_ prog Tryz.f44 A5_ := ah_
theorem nb_ (x : av_) (hx : av_.sz x ≤ 1048576) (h : List Row) : aa_ prog 44 [.agg (av_.cells x)] h (.val (.bool (c9_ x))) := by
 refine aj_ mixed Tryz.func44 Di_ rfl rfl ?_ h
 simp (disch := omega) only [A5_, c44, av_.cells, go_sem, reduceEqDiff, Nat.reduceAdd, ↓reduceIte]
 repeat' (first
  | exact af_ _ _
  | (refine ae_ ?_; first | rfl | (simp only [c9_, *, Bool.true_and, Bool.and_false, Bool.false_and, Bool.true_or, Bool.false_or, decide_true, decide_false, Bool.and_self, Bool.or_self]; done) | (simp [c9_, *]; done))
  | simp (disch := omega) only [go_sem, reduceEqDiff, ↓reduceIte]
  | (refine aa_.call (fD_ _ _ _ _) ?_)
  | (refine aa_.q (fD_ _ _ _ _) ?_)
  | (refine aa_.call (gL_ _ (av_.sz_Events hx) _) ?_)
  | (refine aa_.q (gL_ _ (av_.sz_Events hx) _) ?_)
  | ((first | (apply a1_; assumption) | (apply a0_; assumption) | (apply be_; assumption) | (apply bd_; assumption)); intro hb; try simp only [hb])
  | ((first | (apply aM_; assumption) | (apply aN_; assumption) | (apply aX_; assumption) | (apply aY_; assumption)); intro hb; try simp only [hb])
  | ((first | apply aG_ | apply aJ_ | apply ao_ | apply ar_) <;> intro hb <;> (try simp only [hb]) <;> (first | have hp := a8_ hb | have hp := a6_ hb | have hp := a7_ hb | have hp := a5_ hb | skip)))
def c30 : LC :=
 .q [.o [.bx 1 36 0, .f 2], .q [.o [.fa 3 0 1, .ln 4 3, .s 5 (.call 70 [.tmp 4, .const (.int .i64 0), .const (.int .i64 3)]), .nt 6 5, .m 7 6, .gf 8 7 false 1 1, .gn 9 7 false 8, .g 10 7 false (.call 70 [.tmp 9, .const
 (.int .i64 0), .const (.int .i64 4)]), .gu 11 7 false 10, .pt 12 7 11, .m 13 12, .gf 14 13 false 2 1, .gn 15 13 false 14, .gc 16 13 false 71 15, .gu 17 13 false 16, .pt 18 13 17], .k 18 (.q [.o [.f 2], .ret]) .skip], .o
 [.fa 19 0 1, .ln 20 19, .bk 21 .gtr false 20 0, .m 22 21, .gf 23 22 false 1 1, .gn 24 22 false 23, .g 25 22 false (.bin .eql false (.tmp 24) (.const (.int .i64 0))), .gm 26 22 false 25, .gf 27 26 true 2 1, .gn 28 26 true
 27, .g 29 26 true (.lenSl (.tmp 28)), .g 30 26 true (.bin .eql false (.tmp 29) (.const (.int .i64 0))), .g 31 22 false (.pick (.tmp 26) (.tmp 30) (.const (.bool false))), .pt 32 22 31, .m 2 32], .ret]
def zW_ : LF := ⟨1, 33, c30, [.tmp 2]⟩
theorem D4_ : au_ prog Tryz.f30 zW_ := ah_
theorem nf_ (x : av_) (hx : av_.sz x ≤ 1048576) (h : List Row) : aa_ prog 30 [.agg (av_.cells x)] h (.val (.bool (c9_ x))) := by
 refine aj_ mixed Tryz.func30 D4_ rfl rfl ?_ h
 simp (disch := omega) only [zW_, c30, av_.cells, go_sem, reduceEqDiff, Nat.reduceAdd, ↓reduceIte]
 repeat' (first
  | exact af_ _ _
  | (refine ae_ ?_; first | rfl | (simp only [c9_, *, Bool.true_and, Bool.and_false, Bool.false_and, Bool.true_or, Bool.false_or, decide_true, decide_false, Bool.and_self, Bool.or_self]; done) | (simp [c9_, *]; done))
  | simp (disch := omega) only [go_sem, reduceEqDiff, ↓reduceIte]
  | (refine aa_.call (hD_ _ _ _ _) ?_)
  | (refine aa_.q (hD_ _ _ _ _) ?_)
  | (refine aa_.call (iy_ _ (av_.sz_Events hx) _) ?_)
  | (refine aa_.q (iy_ _ (av_.sz_Events hx) _) ?_)
  | ((first | (apply a1_; assumption) | (apply a0_; assumption) | (apply be_; assumption) | (apply bd_; assumption)); intro hb; try simp only [hb])
  | ((first | (apply aM_; assumption) | (apply aN_; assumption) | (apply aX_; assumption) | (apply aY_; assumption)); intro hb; try simp only [hb])
  | ((first | apply aG_ | apply aJ_ | apply ao_ | apply ar_) <;> intro hb <;> (try simp only [hb]) <;> (first | have hp := a8_ hb | have hp := a6_ hb | have hp := a7_ hb | have hp := a5_ hb | skip)))
theorem pG_ {a b : ac_} (h : ¬ (a.Name = b.Name ∧ a.Subs = b.Subs)) : b9_ a b = true ∨ b9_ b a = true := by
 refine qO_ (fun q => h ⟨?_, ?_⟩)
 ·have := q.1; rwa [mR_] at this
 ·exact (rR_ _ _).1 q.2
theorem oG_ : ∀ (r : List ac_) (p : Option ac_), r.Pairwise (fun a b => b9_ a b = true) → (∀ q, p = some q → ∀ x ∈ r, b9_ q x = true) → (∀ x ∈ r, cA_ x = true) → dK_ p r = true
 | [], p, _, _, _ => by simp [dK_]
 | a :: r, p, h1, h2, h3 => by
  obtain ⟨h4, h5⟩ := pairwise_cons.1 h1
  simp only [dK_, Bool.and_eq_true]
  refine ⟨⟨h3 a (by simp), ?_⟩, oG_ r (some a) h5 (by rintro q e x hx; cases e; exact h4 x hx) (fun x hx => h3 x (by simp [hx]))⟩
  cases p with
  | none => rfl
  | some q => exact h2 q rfl a (by simp)
theorem kS_ {ns : List ac_} (h0 : ns.length ≤ 120) (h1 : ns.Pairwise (fun a b => b9_ a b = true)) (h2 : ∀ x ∈ ns, cA_ x = true) : aW_ ⟨ns⟩ = true := by
 simp only [aW_, Bool.and_eq_true, decide_eq_true_eq]
 exact ⟨by omega, oG_ ns none h1 (by simp) h2⟩
theorem hR_ {x : ad_} (h : aW_ x = true) : x.Nodes.length ≤ 120 := (gr_ h).1
theorem ke_ {ns : List ac_} {n : ByteArray} {s : List ByteArray} (h : bI_ ns n s = true) : ∃ hp : bw_ ns n s < ns.length, ns[bw_ ns n s].Name = n ∧ ns[bw_ ns n s].Subs = s := by
 unfold bI_ at h
 split at h
 ·rename_i a e
  obtain ⟨hp, e'⟩ := List.getElem?_eq_some_iff.1 e
  refine ⟨hp, ?_⟩
  rw [e']
  simp only [fA_, Bool.and_eq_true, decide_eq_true_eq] at h
  exact ⟨h.1, (jU_ _ _).1 h.2⟩
 ·cases h
theorem ua_ {ns : List ac_} {n : ByteArray} {s : List ByteArray} (h : bI_ ns n s = false) (hp : bw_ ns n s < ns.length) : ¬ (ns[bw_ ns n s].Name = n ∧ ns[bw_ ns n s].Subs = s) := by
 unfold bI_ at h
 rw [getElem?_eq_getElem hp] at h
 simp only at h
 intro q
 rw [fA_, (jU_ _ _).2 q.2, decide_eq_true q.1] at h
 cases h
def dJ_ (ns : List ac_) (n : ByteArray) (s : List ByteArray) (v : ByteArray) : List ac_ := ns.take (bw_ ns n s) ++ ⟨n, s, v⟩ :: ns.drop (bw_ ns n s + (if bI_ ns n s = true then 1 else 0))
theorem qG_ {ns : List ac_} {n : ByteArray} {s : List ByteArray} {v : ByteArray} (h : bI_ ns n s = true) : dJ_ ns n s v = ns.set (bw_ ns n s) ⟨n, s, v⟩ := by
 obtain ⟨hp, _⟩ := ke_ h
 rw [dJ_, if_pos h, set_eq_take_append_cons_drop, if_pos hp]
theorem mk_ {ns : List ac_} {n : ByteArray} {s : List ByteArray} {v : ByteArray} (h : bI_ ns n s = false) : dJ_ ns n s v = ns.take (bw_ ns n s) ++ ⟨n, s, v⟩ :: ns.drop (bw_ ns n s) := by
 rw [dJ_, if_neg (by rw [h]; simp), Nat.add_zero]
theorem uI_ {ns : List ac_} {n : ByteArray} {s : List ByteArray} {v : ByteArray} : (dJ_ ns n s v).length = if bI_ ns n s = true then ns.length else ns.length + 1 := by
 have := lE_ ns n s
 by_cases h : bI_ ns n s = true
 ·rw [qG_ h, if_pos h, ls_]
 ·have h' : bI_ ns n s = false := by simpa using h
  rw [mk_ h', if_neg h, la_, length_take, lc_, length_drop]; omega
theorem rC_ {x : ad_} (h : aW_ x = true) {n : ByteArray} {s : List ByteArray} {v : ByteArray} (ht : cP_ n s = true) (hv : v.size ≤ 64) (hl : bI_ x.Nodes n s = true ∨ x.Nodes.length < 120) : aW_ ⟨dJ_ x.Nodes n s v⟩ = true := by
 have hlen := hR_ h
 have hsort := pairwise_iff_getElem.1 (fR_ h)
 have hnode := mL_ h
 have hahead : ∀ a ∈ x.Nodes.take (bw_ x.Nodes n s), b9_ a ⟨n, s, v⟩ = true := by
  intro a ha
  obtain ⟨i, hi, rfl⟩ := mem_iff_getElem.1 ha
  rw [length_take] at hi
  rw [getElem_take]
  exact (lo_ h n s i (by omega)).2 (by omega)
 have hbehind : ∀ b ∈ x.Nodes.drop (bw_ x.Nodes n s + (if bI_ x.Nodes n s = true then 1 else 0)), b9_ ⟨n, s, v⟩ b = true := by
  intro b hb
  obtain ⟨i, hi, rfl⟩ := mem_iff_getElem.1 hb
  rw [length_drop] at hi
  rw [getElem_drop]
  by_cases hf : bI_ x.Nodes n s = true
  ·simp only [hf, if_true] at hi ⊢
   obtain ⟨hp, e1, e2⟩ := ke_ hf
   have := hsort (bw_ x.Nodes n s) (bw_ x.Nodes n s + 1 + i) hp (by omega) (by omega)
   unfold b9_ at this ⊢
   rw [e1, e2] at this
   exact this
  ·have hf' : bI_ x.Nodes n s = false := by simpa using hf
   simp only [hf', Bool.false_eq_true, if_false, Nat.add_zero] at hi ⊢
   have hp : bw_ x.Nodes n s < x.Nodes.length := by omega
   have h0 : b9_ ⟨n, s, v⟩ x.Nodes[bw_ x.Nodes n s] = true := by
    rcases pG_ (a := ⟨n, s, v⟩) (b := x.Nodes[bw_ x.Nodes n s]) (fun q => ua_ hf' hp ⟨q.1.symm, q.2.symm⟩) with q | q
    ·exact q
    ·have := (lo_ h n s _ hp).1 q; omega
   by_cases q : i = 0
   ·subst q; exact h0
   ·exact gD_ h0 (hsort _ _ hp (by omega) (by omega))
 refine kS_ ?_ ?_ ?_
 ·rw [uI_]; split
  ·exact hlen
  ·rename_i q
   rcases hl with hl | hl
   ·exact absurd hl q
   ·omega
 ·unfold dJ_
  refine pairwise_append.2 ⟨(fR_ h).sublist (take_sublist _ _), pairwise_cons.2 ⟨hbehind, (fR_ h).sublist (drop_sublist _ _)⟩, ?_⟩
  intro a ha b hb
  rcases mem_cons.1 hb with e | e
  ·subst e; exact hahead a ha
  ·exact gD_ (hahead a ha) (hbehind b e)
 ·intro a ha
  unfold dJ_ at ha
  rcases mem_append.1 ha with e | e
  ·exact hnode a (mem_of_mem_take e)
  ·rcases mem_cons.1 e with e | e
   ·subst e
    simp only [cA_, Bool.and_eq_true, decide_eq_true_eq]
    exact ⟨ht, by omega⟩
   ·exact hnode a (mem_of_mem_drop e)
theorem u4_ {x : ad_} (h : aW_ x = true) (n : ByteArray) (s : List ByteArray) : aW_ ⟨cR_ x.Nodes n s⟩ = true := by
 refine kS_ (Nat.le_trans (length_filter_le _ _) (hR_ h)) ((fR_ h).sublist filter_sublist) (fun a ha => mL_ h a (mem_filter.1 ha).1)
theorem tB_ {α : Type} (f : α → Nat) (b : Nat) : ∀ xs : List α, (∀ x ∈ xs, f x ≤ b) → b1_ f xs ≤ b * xs.length
 | [], _ => by simp [b1_]
 | x :: xs, h => by
  have := tB_ f b xs fun y hy => h y (by simp [hy])
  have := h x (by simp)
  simp only [b1_, lc_, Nat.mul_add]; omega
theorem ux_ {a : ac_} (h : cA_ a = true) : ac_.sz a ≤ 172 := by
 obtain ⟨h1, h2, h3⟩ := ik_ h
 have := jk_ h1
 have := l1_ h2
 unfold ac_.sz; omega
theorem uo_ {x : ad_} (h : aW_ x = true) : ad_.sz x ≤ 20760 := by
 obtain ⟨h1, h2⟩ := gr_ h
 have := tB_ ac_.sz 172 x.Nodes fun a ha => ux_ (h2 a ha)
 unfold ad_.sz
 simp only [an_]; omega
theorem cJ_ {x : ad_} (h : aW_ x = true) : ad_.sz x ≤ 1048576 := Nat.le_trans (uo_ h) (by decide)
theorem hA_ : aW_ ⟨[]⟩ = true := kS_ (by simp) List.Pairwise.nil (by simp)
def de_ (c : az_) : Bool := cP_ c.Name c.Subs && (decide (c.Kind = 1) && decide ((c.Value.size : Int) ≤ 64) || decide (c.Kind = 2) && decide (c.Value = txt []))
def b6_ (x : ad_) (c : az_) : ad_ × Int :=
 if c.Kind = 1 then (if bI_ x.Nodes c.Name c.Subs = true ∨ x.Nodes.length < 120 then (⟨dJ_ x.Nodes c.Name c.Subs c.Value⟩, 0) else (⟨[]⟩, 4)) else (⟨cR_ x.Nodes c.Name c.Subs⟩, 0)
theorem tn_ {x : ad_} (h : aW_ x = true) {c : az_} (hc : de_ c = true) : aW_ (b6_ x c).1 = true := by
 simp only [de_, Bool.and_eq_true, Bool.or_eq_true, decide_eq_true_eq] at hc
 unfold b6_
 split
 ·rename_i k
  split
  ·rename_i q
   refine rC_ h hc.1 ?_ q
   rcases hc.2 with ⟨_, q2⟩ | ⟨q2, _⟩
   ·omega
   ·omega
  ·exact hA_
 ·exact u4_ h _ _
def dy_ (x : ad_) (n : ByteArray) (s : List ByteArray) : Int := if bI_ x.Nodes n s = true ∨ x.Nodes.length < 120 then 0 else 4
theorem wp_ {H : List Row} {n : Nat} {p q u v b : AV} {r : AV} {f : List Nat} {w : Value} (h : aL_ (Own H n) [p, b, .val w] [p, r, .val w] f) (v : Value) : aL_ (Own H n) [p, b, .val v] [p, r, .val v] f := by
 obtain ⟨d, ds, f1, f2, e1, rfl, h1, h2⟩ := h
 simp only [List.cons.injEq] at e1
 obtain ⟨rfl, rfl⟩ := e1
 obtain ⟨d, ds, f3, f4, e1, rfl, h3, h4⟩ := h2
 simp only [List.cons.injEq] at e1
 obtain ⟨rfl, rfl⟩ := e1
 obtain ⟨d, ds, f5, f6, e1, rfl, h5, h6⟩ := h4
 simp only [List.cons.injEq] at e1
 obtain ⟨rfl, rfl⟩ := e1
 obtain ⟨_, rfl⟩ := h6
 cases n with
 | zero => exact h5.elim
 | succ n =>
  obtain ⟨rfl, _⟩ := h5
  exact ⟨_, _, f1, _, rfl, rfl, h1, _, _, f3, _, rfl, rfl, h3, _, _, [], [], rfl, rfl, ⟨rfl, .inl rfl⟩, rfl, rfl⟩
theorem uW_ {l k : Nat} {ts : List Tr} {t' : Tr} (hk : k < ts.length) (hf : t'.f = ts[k].f) : ∀ y ∈ cr_ l (ts.set k t'), y ∈ cr_ l ts := by
 have hmap : (ts.set k t').map Tr.f = ts.map Tr.f := by
  rw [map_set, hf]
  apply ext_getElem?
  intro i
  rw [getElem?_set]
  split
  ·rename_i e
   subst e
   rw [if_pos (by simpa using hk), getElem?_map, getElem?_eq_getElem hk]; rfl
  ·rfl
 intro y hy
 unfold cr_ at hy ⊢
 rwa [hmap] at hy
def z8_ : LC :=
 .q [.o [.ki 8 0], .o [.m 12 0, .nc 13 12, .ld 14 1 13, .m 15 1, .m 16 2, .c3 17 163 14 15 16, .m 11 17, .ex 18 11 0, .ex 19 11 1, .m 9 18, .m 10 19], .block 0 (.q [.o [.m 36 10, .m 35 36], .k 35 (.o [.m 37 0, .nc 38 37,
 .fa 39 0 38, .ln 40 39, .m 41 9, .m 42 3, .ia 43 3 40 41, .fa 44 2 43, .st 1 44 42]) (.q [.o [.m 46 0, .nc 47 46, .fa 48 0 47, .ln 49 48, .ll 50 49, .bk 51 .eql false 50 120, .m 45 51], .k 45 (.q [.o [.ki 8 4], .ret])
 (.gops [.m 20 0, .m 21 0, .nc 22 21, .fa 23 0 22, .ln 24 23, .m 25 9, .m 26 1, .m 27 2, .m 29 3] [(.c1 28 102 27, [.m 20 0, .m 21 0, .nc 22 21, .fa 23 0 22, .ln 24 23, .m 25 9, .m 26 1, .m 29 3]), (.s 30 (.build (.agg
 #[.string ⟨#[]⟩, .slice none 0 0, .string ⟨#[]⟩]) [(0, 1), (1, 1), (2, 1)] [(0, .tmp 26), (1, .tmp 28), (2, .tmp 29)]), [.m 20 0, .m 21 0, .nc 22 21, .fa 23 0 22, .ln 24 23, .m 25 9]), (.s 31 (.buildSlice 93 3 (.agg
 #[.string ⟨#[]⟩, .slice none 0 0, .string ⟨#[]⟩]) 1 [(0, .tmp 30)]), [.m 20 0, .m 21 0, .nc 22 21, .fa 23 0 22, .ln 24 23, .m 25 9]), (.c3 32 164 24 25 31, [.m 20 0]), (.nc 33 20, []), (.fa 34 0 33, []), (.st 1 34 32,
 [])])])]), .o [.ki 8 0], .ret]
def xR_ : LF := ⟨4, 52, z8_, [.tmp 8]⟩
theorem Ar_ : au_ Tryz.prog Tryz.f136 xR_ := ah_
theorem lI_ {L lo : Nat} {H0 H : List Row} {x : ad_} {sa : AV} (B : eg_ L lo H0 x) (mH : aD_ H0 H) (n : ByteArray) (s : List ByteArray) (v : ByteArray) (hx : aW_ x = true) (hs : an_ ByteArray.size s ≤ 1048576) (hsa : ∀ H' : List Row, (∀ y, H0.length ≤ y → y < H.length → H'[y]? = H[y]?) → bh_ H' sa (.list 0 1 (s.map am_))) {K : AV → List Row → Prop}
 (hk : ∀ H' : List Row, H.length ≤ H'.length → (∀ y, y < lo → H'[y]? = H[y]?) → (dy_ x n s = 0 → eg_ L lo H' ⟨dJ_ x.Nodes n s v⟩) → K (.val (.int .i64 (dy_ x n s))) H') :
 callSem Tryz.prog 136 [.ptr L 1 0 0, .val (.string n), sa, .val (.string v)] H K := by
 refine bg_ mixed Tryz.func136 Ar_ (bT_ rfl ?_)
 have hlow := B.low
 have hlo0 := hlow.1
 have B1 := B.more mH
 obtain ⟨a, o, ca, hF⟩ := B1.arg
 obtain ⟨l, m, ts, b0, d⟩ := B
 have lows0 := b0.at'.lows
 have b := b0.more mH
 obtain ⟨a', o', hS⟩ := b.box
 obtain rfl : a = a' := by rw [o] at o'; simpa using o'
 have hL := (List.getElem?_eq_some_iff.1 o).1
 have hr := b.at'.row
 have hml := yu_ b.at'.le d
 have hxl := hR_ hx
 have hle := b.at'.le
 have hll := b.at'.lt
 have hlo := b.at'.lows l mem_cons_self
 have hLl : L ≠ l := fun q => b.out (by rw [q]; exact mem_cons_self)
 have mlen := mH.len
 have hpl : aa_ Tryz.prog 163 [.agg [a], .val (.string n), sa] H (.tup [.val (.int .i64 (bw_ x.Nodes n s)), .val (.bool (bI_ x.Nodes n s))]) := aa_.anyR rfl (fun h => hp_ x n s (cJ_ hx) hs hx h) (bc_.cons hF.arg.any (bc_.cons (ca_.same rfl) (bc_.cons (hsa H fun _ _ _ => rfl).any bc_.nil)))
 simp (disch := (first | omega | (simp only [ls_, la_, lc_, ln_]; first | done | omega))) only [go_sem, reduceEqDiff, reduceCtorEq, ↓reduceIte, xR_, z8_, o]
 refine aa_.call hpl ?_
 cases hf : bI_ x.Nodes n s
 case true =>
  obtain ⟨hp, e1, e2⟩ := ke_ hf
  have hpm : bw_ x.Nodes n s < m := by omega
  have hpt : bw_ x.Nodes n s < ts.length := by omega
  obtain ⟨c, g1, g2, g3⟩ := yz_ b.at' d hpm hpt hp
  have hC : dy_ x n s = 0 := by rw [dy_, if_pos (.inl hf)]
  rw [hC] at hk
  have fin : K (.val (.int .i64 0)) (H.set l ⟨.ty 93, 3, (ts.map Tr.c).set (bw_ x.Nodes n s) [.val (.string x.Nodes[bw_ x.Nodes n s].Name), c, .val (.string v)]⟩) := by
   refine hk _ (by simp) (fun y q1 => al_ (by omega)) (fun _ => ?_)
   have hset : (ts.map Tr.c).set (bw_ x.Nodes n s) [.val (.string x.Nodes[bw_ x.Nodes n s].Name), c, .val (.string v)] = (ts.set (bw_ x.Nodes n s) ⟨[.val (.string x.Nodes[bw_ x.Nodes n s].Name), c, .val (.string v)], [.val (.string x.Nodes[bw_ x.Nodes n s].Name), .list 0 1 (x.Nodes[bw_ x.Nodes n s].Subs.map am_), .val (.string v)], ts[bw_ x.Nodes n s].f⟩).map Tr.c := by
    rw [map_set]
   rw [hset]
   refine ⟨l, m, _, ⟨⟨a, (al_ (Ne.symm hLl)).trans o, ?_⟩, b.at'.put hpt rfl ⟨rfl, ?_⟩ (fun k hk' => ?_), fun q => b.out (uW_ (t' := ⟨[.val (.string x.Nodes[bw_ x.Nodes n s].Name), c, .val (.string v)], [.val (.string x.Nodes[bw_ x.Nodes n s].Name), .list 0 1 (x.Nodes[bw_ x.Nodes n s].Subs.map am_), .val (.string v)], ts[bw_ x.Nodes n s].f⟩) hpt rfl L q), b.lt⟩, ?_⟩
   ·rcases hS with rfl | ⟨rfl, q⟩
    ·exact .inl (by rw [ls_])
    ·exact .inr ⟨by rw [ls_], by rw [ls_]; exact q⟩
   ·simp only [all_cons, all_nil, g3, Bool.true_and, Bool.and_true]; rfl
   ·rw [g1, g2] at hk'
    exact wp_ (u := .undef) (v := .undef) (q := .undef) hk' _
   ·rw [qG_ hf, take_set, map_set, d, map_set, e1, e2]; rfl
  have hget : (ts.map Tr.c)[bw_ x.Nodes n s]? = some [.val (.string x.Nodes[bw_ x.Nodes n s].Name), c, .val (.string x.Nodes[bw_ x.Nodes n s].Value)] := by
   rw [getElem?_map, getElem?_eq_getElem hpt, Option.map_some, g1]
  rcases hS with rfl | ⟨rfl, rfl⟩
  ·simp (disch := (first | omega | (simp only [ls_, la_, lc_, ln_]; first | done | omega))) only [go_sem, reduceEqDiff, Nat.reduceAdd, reduceCtorEq, ↓reduceIte, o, hr, hget, hpm, length_map, Int.zero_add, Nat.zero_add]
   exact fin
  ·simp (disch := (first | omega | (simp only [ls_, la_, lc_, ln_]; first | done | omega))) only [go_sem, reduceEqDiff, Nat.reduceAdd, reduceCtorEq, ↓reduceIte, o, hr, hget, hpm, length_map, Nat.zero_add]
   exact fin
 by_cases h120 : x.Nodes.length = 120
 ·have hC : dy_ x n s = 4 := by rw [dy_, if_neg (by rw [hf, h120]; simp)]
  rw [hC] at hk
  have h120' : m = 120 := by omega
  have fin : K (.val (.int .i64 4)) H := hk _ (Nat.le_refl _) (fun _ _ => rfl) (fun q => by cases q)
  have t120 : ((m : Int) = 120) = True := eq_true (by omega)
  rcases hS with rfl | ⟨rfl, q⟩
  ·simp (disch := (first | omega | (simp only [ls_, la_, lc_, ln_]; first | done | omega))) only [go_sem, reduceEqDiff, reduceCtorEq, ↓reduceIte, o, hr, t120, length_map, Nat.sub_zero]
   exact fin
  ·have t120' : ((ts.length : Int) = 120) = True := eq_true (by omega)
   simp (disch := (first | omega | (simp only [ls_, la_, lc_, ln_]; first | done | omega))) only [go_sem, reduceEqDiff, reduceCtorEq, ↓reduceIte, o, hr, t120', length_map]
   exact fin
 have hC : dy_ x n s = 0 := by rw [dy_, if_pos (.inr (by omega))]
 rw [hC] at hk
 have h120' : ((m : Int) = 120) = False := eq_false (by omega)
 have hpm : bw_ x.Nodes n s ≤ m := by have := lE_ x.Nodes n s; omega
 have clone : ∀ K' : AV → List Row → Prop, (∀ (H1 : List Row) (cl : Nat), aD_ H H1 → FB H.length H1.length H1 (.own cl s.length) (.list 0 1 (s.map am_)) → K' (.own cl s.length) H1) → callSem Tryz.prog 102 [sa] H K' := fun K' hK' => by
  refine eH_ (b5_ s (aA_ hs)) (bc_.cons (hsa H fun _ _ _ => rfl).any bc_.nil) (fun av H1 m1 F1 q1 => ?_)
  obtain ⟨cl, rfl⟩ := q1
  exact hK' H1 cl m1 F1
 have ins : ∀ (H1 : List Row) (cl : Nat), aD_ H H1 → FB H.length H1.length H1 (.own cl s.length) (.list 0 1 (s.map am_)) → ∀ K' : AV → List Row → Prop, (∀ (av : AV) (H2 : List Row), ((∃ a b c, av = .sub a b 0 c) ∨ ∃ a b, av = .own a b) → H1.length ≤ H2.length → H2[L]? = some ⟨.ty 41, 1, [[a]]⟩ → K (.val (.int .i64 0)) (H2.set L ⟨.ty 41, 1, [[av]]⟩) → K' av H2) →
  callSem Tryz.prog 164 [.sub l ts.length 0 m, .val (.int .i64 (bw_ x.Nodes n s)), .own H1.length 1] (H1 ++ [⟨.ty 93, 3, [[.val (.string n), .own cl s.length, .val (.string v)]]⟩]) K' := by
  intro H1 cl m1 F1 K' hK'
  have l1 := m1.len
  have s1 := (b.at'.more m1).more (aD_.app H1 [⟨.ty 93, 3, [[.val (.string n), .own cl s.length, .val (.string v)]]⟩])
  have hN : ak_ H.length H1.length (H1 ++ [⟨.ty 93, 3, [[.val (.string n), .own cl s.length, .val (.string v)]]⟩]) [.val (.string n), .own cl s.length, .val (.string v)] (ac_.cells ⟨n, s, v⟩) :=
   ak_.val _ (ak_.cons (F1.tree.keep fun y _ q => aE_ q) (ak_.val _ (ak_.nil _ _ _)) ⟨l1, Nat.le_refl _⟩)
  refine hC_ s1 hpm (by omega) (aU_ rfl) hN ⟨rfl, fun r hr => ?_⟩ (fun y hy => (b.at'.lows y hy).2) (by omega) l1 (Nat.le_refl _) (fun av H2 l' ts' k1 k2 k3 k4 k5 k6 => ?_)
  ·simp only [ac_.cells, mem_cons, not_mem_nil, or_false] at hr
   rcases hr with rfl | rfl | rfl <;> rfl
  ·have hll' := (k3.lows l' mem_cons_self).1
   have k1' : H1.length + 1 ≤ H2.length := by simpa using k1
   have hL2 : H2[L]? = some ⟨.ty 41, 1, [[a]]⟩ := by
    rw [k2 L (by simp; omega) (by omega), aE_ (by omega), m1.kept L hL]; exact o
   refine hK' av H2 (by rcases k4 with q | ⟨q, _⟩; exact .inl ⟨_, _, _, q⟩; exact .inr ⟨_, _, q⟩) (by omega) hL2 (hk _ (by rw [ls_]; omega) (fun y q1 => ?_) (fun _ => ?_))
   ·rw [al_ (by omega), k2 y (by simp; omega) (by omega), aE_ (by omega), m1.kept y (by omega)]
   ·have hLf : ∀ y ∈ cr_ l' ts', L ≠ y := fun y hy q => by
     rcases k6 y hy with q2 | q2
     ·exact b.out (by rw [q]; exact q2)
     ·omega
    refine ⟨l', m + 1, ts', ⟨⟨av, aK_ (by omega), k4⟩, k3.keep (fun y hy => al_ (hLf y hy)) (by simp), fun q => hLf L q rfl, b.lt⟩, ?_⟩
    ·rw [k5, d, mk_ hf, map_append, map_cons, map_take, map_drop]
 rcases hS with rfl | ⟨rfl, q⟩
 ·simp (disch := (first | omega | (simp only [ls_, la_, lc_, ln_]; first | done | omega))) only [go_sem, reduceEqDiff, reduceCtorEq, ↓reduceIte, o, hr, h120', length_map, Nat.sub_zero]
  refine clone _ (fun H1 cl m1 F1 => ?_)
  have o1 := m1.at o
  have l1 := m1.len
  simp (disch := (first | omega | (simp only [ls_, la_, lc_, ln_]; first | done | omega))) only [aE_, go_sem, reduceEqDiff, Nat.reduceAdd, reduceLeDiff, reduceCtorEq, ↓reduceIte, o1, bE_, Option.map_some]
  refine ins H1 cl m1 F1 _ (fun av H2 cav k1 o2 hfin => ?_)
  rcases cav with ⟨a1, a2, a3, rfl⟩ | ⟨a1, a2, rfl⟩
  all_goals
   simp (disch := (first | omega | (simp only [ls_, la_, lc_, ln_]; first | done | omega))) only [go_sem, reduceEqDiff, reduceCtorEq, ↓reduceIte, o2]
   exact hfin
 ·have h120'' : ((ts.length : Int) = 120) = False := eq_false (by omega)
  simp (disch := (first | omega | (simp only [ls_, la_, lc_, ln_]; first | done | omega))) only [go_sem, reduceEqDiff, reduceCtorEq, ↓reduceIte, o, hr, h120'', length_map]
  refine clone _ (fun H1 cl m1 F1 => ?_)
  have o1 := m1.at o
  have l1 := m1.len
  simp (disch := (first | omega | (simp only [ls_, la_, lc_, ln_]; first | done | omega))) only [aE_, go_sem, reduceEqDiff, Nat.reduceAdd, reduceLeDiff, reduceCtorEq, ↓reduceIte, o1, bE_, Option.map_some]
  refine callSem.own_sub ?_
  have := ins H1 cl m1 F1
  rw [q] at this
  refine this _ (fun av H2 cav k1 o2 hfin => ?_)
  rcases cav with ⟨a1, a2, a3, rfl⟩ | ⟨a1, a2, rfl⟩
  all_goals
   simp (disch := (first | omega | (simp only [ls_, la_, lc_, ln_]; first | done | omega))) only [go_sem, reduceEqDiff, reduceCtorEq, ↓reduceIte, o2]
   exact hfin
def Cq_ : LC :=
 .q [.o [.bx 2 44 0, .bx 3 44 1, .f 4], .o [.fa 5 0 2, .ln 6 5, .fa 7 0 3, .ln 8 7, .bb 9 .eql false 6 8, .m 10 9, .gf 11 10 true 1 2, .gn 12 10 true 11, .gf 13 10 true 1 3, .gn 14 10 true 13, .g 15 10 true (.bin .eql
 false (.tmp 12) (.tmp 14)), .pf 16 10 15, .m 17 16, .gf 18 17 true 2 2, .gn 19 17 true 18, .gf 20 17 true 2 3, .gn 21 17 true 20, .g 22 17 true (.call 138 [.tmp 19, .tmp 21]), .pf 23 17 22, .m 24 23, .gf 25 24 true 3 2,
 .gn 26 24 true 25, .gf 27 24 true 3 3, .gn 28 24 true 27, .g 29 24 true (.bin .eql false (.tmp 26) (.tmp 28)), .pf 30 24 29, .m 31 30, .gf 32 31 true 4 2, .gn 33 31 true 32, .gf 34 31 true 4 3, .gn 35 31 true 34, .g 36
 31 true (.bin .eql false (.tmp 33) (.tmp 35)), .pf 37 31 36, .m 4 37], .ret]
def xx_ : LF := ⟨2, 38, Cq_, [.tmp 4]⟩
theorem Br_ : au_ Tryz.prog Tryz.f100 xx_ := ah_
def c78 : LC :=
 .q [.o [.f 4], .o [.m 5 0, .ll 6 5, .m 7 1, .ll 8 7, .bb 9 .eql false 6 8, .m 10 9, .gm 11 10 true 0, .gm 12 10 true 1, .g 13 10 true (.call 113 [.tmp 11, .tmp 12]), .pf 14 10 13, .m 4 14], .ret]
def wo_ : LF := ⟨2, 15, c78, [.tmp 4]⟩
theorem Df_ : au_ Tryz.prog Tryz.f78 wo_ := ah_
def c34 : LC :=
 .q [.o [.bx 2 44 0, .bx 3 44 1, .f 4], .o [.fa 5 0 2, .ln 6 5, .fa 7 0 3, .ln 8 7, .bb 9 .eql false 6 8, .m 10 9, .gf 11 10 true 1 2, .gn 12 10 true 11, .gf 13 10 true 1 3, .gn 14 10 true 13, .g 15 10 true (.bin .eql
 false (.tmp 12) (.tmp 14)), .pf 16 10 15, .m 17 16, .gf 18 17 true 2 2, .gn 19 17 true 18, .gf 20 17 true 2 3, .gn 21 17 true 20, .g 22 17 true (.call 78 [.tmp 19, .tmp 21]), .pf 23 17 22, .m 24 23, .gf 25 24 true 3 2,
 .gn 26 24 true 25, .gf 27 24 true 3 3, .gn 28 24 true 27, .g 29 24 true (.bin .eql false (.tmp 26) (.tmp 28)), .pf 30 24 29, .m 31 30, .gf 32 31 true 4 2, .gn 33 31 true 32, .gf 34 31 true 4 3, .gn 35 31 true 34, .g 36
 31 true (.bin .eql false (.tmp 33) (.tmp 35)), .pf 37 31 36, .m 4 37], .ret]
def CT_ : LF := ⟨2, 38, c34, [.tmp 4]⟩
theorem Ds_ : au_ Tryz.prog Tryz.f34 CT_ := ah_
theorem h7_ (xs ys : List ByteArray) (hx : xs.length ≤ 1048576) (h : List Row) : aa_ Tryz.prog 78 [.list 0 1 (xs.map am_), .list 0 1 (ys.map am_)] h (.val (.bool (br_ xs ys))) := by
 refine aj_ mixed Tryz.func78 Df_ rfl rfl ?_ h
 by_cases hl : xs.length = ys.length
 ·have hl' : ((xs.length : Int) = (ys.length : Int)) = True := by simp [hl]
  simp (disch := omega) only [wo_, c78, hl', go_sem, reduceEqDiff, reduceCtorEq, ↓reduceIte]
  refine aa_.call (lO_ xs ys hx _) ?_
  simp (disch := omega) only [go_sem, reduceEqDiff, ↓reduceIte]
  exact ae_ (ru_ xs ys hl)
 ·have hl' : ((xs.length : Int) = (ys.length : Int)) = False := by simp; omega
  simp (disch := omega) only [wo_, c78, hl', go_sem, reduceEqDiff, reduceCtorEq, ↓reduceIte]
  exact ae_ (by rw [br_, hh_ _ _ _ hl])
def bL_ (x y : ab_) : Bool := decide (x.Kind = y.Kind) && decide (x.Name = y.Name) && br_ x.Subs y.Subs && decide (x.Value = y.Value) && decide (x.N = y.N)
theorem lN_ (x y : ab_) (hx : ab_.sz x ≤ 1048576) (h : List Row) : aa_ Tryz.prog 100 [.agg (ab_.cells x), .agg (ab_.cells y)] h (.val (.bool (bL_ x y))) := by
 refine aj_ mixed Tryz.func100 Br_ rfl rfl ?_ h
 simp (disch := omega) only [xx_, Cq_, ab_.cells, go_sem, reduceEqDiff, Nat.reduceAdd, ↓reduceIte]
 by_cases e_Kind : x.Kind = y.Kind
 ·have q_Kind := eq_true e_Kind
  simp (disch := omega) only [q_Kind, go_sem, reduceEqDiff, ↓reduceIte]
  by_cases e_Name : x.Name = y.Name
  ·have q_Name := eq_true e_Name
   simp (disch := omega) only [q_Name, go_sem, reduceEqDiff, ↓reduceIte]
   first | refine aa_.call (dh_ x.Subs y.Subs (aA_ (ab_.sz_Subs hx)) _) ?_ | refine aa_.q (dh_ x.Subs y.Subs (aA_ (ab_.sz_Subs hx)) _) ?_
   by_cases q_Subs : br_ x.Subs y.Subs = true
   ·skip
    simp (disch := omega) only [q_Subs, go_sem, reduceEqDiff, ↓reduceIte]
    by_cases e_Value : x.Value = y.Value
    ·have q_Value := eq_true e_Value
     simp (disch := omega) only [q_Value, go_sem, reduceEqDiff, ↓reduceIte]
     by_cases e_N : x.N = y.N
     ·have q_N := eq_true e_N
      simp (disch := omega) only [q_N, go_sem]
      exact ae_ (by simp [bL_, *])
     ·have q_N := eq_false e_N
      simp (disch := omega) only [q_N, go_sem]
      exact ae_ (by simp [bL_, *])
    ·have q_Value := eq_false e_Value
     simp (disch := omega) only [q_Value, go_sem, reduceEqDiff, ↓reduceIte]
     exact ae_ (by simp [bL_, *])
   ·replace q_Subs : br_ x.Subs y.Subs = false := by simpa using q_Subs
    simp (disch := omega) only [q_Subs, go_sem, reduceEqDiff, ↓reduceIte]
    exact ae_ (by simp [bL_, *])
  ·have q_Name := eq_false e_Name
   simp (disch := omega) only [q_Name, go_sem, reduceEqDiff, ↓reduceIte]
   exact ae_ (by simp [bL_, *])
 ·have q_Kind := eq_false e_Kind
  simp (disch := omega) only [q_Kind, go_sem, reduceEqDiff, ↓reduceIte]
  exact ae_ (by simp [bL_, *])
theorem ks_ (x y : ab_) (hx : ab_.sz x ≤ 1048576) (h : List Row) : aa_ Tryz.prog 34 [.agg (ab_.cells x), .agg (ab_.cells y)] h (.val (.bool (bL_ x y))) := by
 refine aj_ mixed Tryz.func34 Ds_ rfl rfl ?_ h
 simp (disch := omega) only [CT_, c34, ab_.cells, go_sem, reduceEqDiff, Nat.reduceAdd, ↓reduceIte]
 by_cases e_Kind : x.Kind = y.Kind
 ·have q_Kind := eq_true e_Kind
  simp (disch := omega) only [q_Kind, go_sem, reduceEqDiff, ↓reduceIte]
  by_cases e_Name : x.Name = y.Name
  ·have q_Name := eq_true e_Name
   simp (disch := omega) only [q_Name, go_sem, reduceEqDiff, ↓reduceIte]
   first | refine aa_.call (h7_ x.Subs y.Subs (aA_ (ab_.sz_Subs hx)) _) ?_ | refine aa_.q (h7_ x.Subs y.Subs (aA_ (ab_.sz_Subs hx)) _) ?_
   by_cases q_Subs : br_ x.Subs y.Subs = true
   ·skip
    simp (disch := omega) only [q_Subs, go_sem, reduceEqDiff, ↓reduceIte]
    by_cases e_Value : x.Value = y.Value
    ·have q_Value := eq_true e_Value
     simp (disch := omega) only [q_Value, go_sem, reduceEqDiff, ↓reduceIte]
     by_cases e_N : x.N = y.N
     ·have q_N := eq_true e_N
      simp (disch := omega) only [q_N, go_sem]
      exact ae_ (by simp [bL_, *])
     ·have q_N := eq_false e_N
      simp (disch := omega) only [q_N, go_sem]
      exact ae_ (by simp [bL_, *])
    ·have q_Value := eq_false e_Value
     simp (disch := omega) only [q_Value, go_sem, reduceEqDiff, ↓reduceIte]
     exact ae_ (by simp [bL_, *])
   ·replace q_Subs : br_ x.Subs y.Subs = false := by simpa using q_Subs
    simp (disch := omega) only [q_Subs, go_sem, reduceEqDiff, ↓reduceIte]
    exact ae_ (by simp [bL_, *])
  ·have q_Name := eq_false e_Name
   simp (disch := omega) only [q_Name, go_sem, reduceEqDiff, ↓reduceIte]
   exact ae_ (by simp [bL_, *])
 ·have q_Kind := eq_false e_Kind
  simp (disch := omega) only [q_Kind, go_sem, reduceEqDiff, ↓reduceIte]
  exact ae_ (by simp [bL_, *])
def c6_ (x : ab_) : az_ := ⟨if x.Kind = 3 then 2 else 1, x.Name, x.Subs, x.Value⟩
theorem sb_ {x : ab_} (k : x.Kind = 3) : c6_ x = ⟨2, x.Name, x.Subs, x.Value⟩ := by rw [c6_, if_pos k]
theorem th_ {x : ab_} (k : ¬ x.Kind = 3) : c6_ x = ⟨1, x.Name, x.Subs, x.Value⟩ := by rw [c6_, if_neg k]
theorem lY_ {e : ab_} (h : bD_ e = true) (ht : bJ_ e = true) : de_ (c6_ e) = true := by
 have k5 : ¬ e.Kind = 5 := by
  intro k; simp [bJ_, k] at ht
 have hth := hj_ h k5
 unfold bD_ at h
 simp only [Bool.and_eq_true] at h
 have hr := h.1.2
 simp only [bJ_, Bool.or_eq_true, decide_eq_true_eq] at ht
 rcases ht with k | k
 ·rw [th_ (by omega)]
  simp only [bo_, k, fs_] at hr
  simp at hr
  simp only [de_, hth, Bool.true_and, Bool.or_eq_true, Bool.and_eq_true, decide_eq_true_eq]
  left; refine ⟨by simp, ?_⟩; have := hr.2; omega
 ·rw [sb_ k]
  simp only [bo_, k] at hr
  simp at hr
  simp only [de_, hth, Bool.true_and, Bool.or_eq_true, Bool.and_eq_true, decide_eq_true_eq]
  right; exact ⟨by simp, hr.2⟩
def bR_ (x : ad_) (e : ab_) : ad_ × Int := if bJ_ e = true then b6_ x (c6_ e) else (if bL_ (bu_ x e) e = true then (x, 0) else (⟨[]⟩, 5))
theorem le_ {x : ad_} {e : ab_} (h : aW_ x = true) (hn : bD_ e = true) : aW_ (bR_ x e).1 = true := by
 unfold bR_
 split
 ·rename_i ht; exact tn_ h (lY_ hn ht)
 ·split
  ·exact h
  ·exact hA_
def bt_ : ad_ → List ab_ → Nat → ad_ × Int × Int
 | x, [], _ => (x, 0, 0)
 | x, e :: es, k => if (bR_ x e).2 = 0 then bt_ (bR_ x e).1 es (k + 1) else (⟨[]⟩, (k : Int), (bR_ x e).2)
theorem kn_ : ∀ (es : List ab_) (x : ad_) (k : Nat), aW_ x = true → (∀ e ∈ es, bD_ e = true) → aW_ (bt_ x es k).1 = true
 | [], x, k, h, _ => h
 | e :: es, x, k, h, hn => by
  unfold bt_
  split
  ·exact kn_ es _ _ (le_ h (hn e (by simp))) (fun a ha => hn a (by simp [ha]))
  ·exact hA_
theorem iN_ {es : List ab_} (h : dk_ es = true) : es.length ≤ 60 ∧ ∀ e ∈ es, bD_ e = true := by
 simp only [dk_, Bool.and_eq_true, decide_eq_true_eq, List.all_eq_true] at h
 exact ⟨by omega, h.2⟩
def dY_ (x : ad_) (es : List ab_) : ad_ × Int × Int := if (aW_ x && dk_ es) = true then bt_ x es 0 else (⟨[]⟩, 0, 1)
theorem ta_ (x : ad_) (es : List ab_) : ad_.sz (dY_ x es).1 ≤ 1048576 := by
 unfold dY_
 split
 ·rename_i h
  simp only [Bool.and_eq_true] at h
  exact cJ_ (kn_ es x 0 h.1 (iN_ h.2).2)
 ·exact cJ_ hA_
theorem c1_ {α : Type} {es : List α} {k : Nat} (h : k < es.length) : es.drop k = es[k] :: es.drop (k + 1) := List.drop_eq_getElem_cons h
theorem ip_ {x : ad_} {es : List ab_} {k : Nat} (h : k < es.length) (h0 : (bR_ x es[k]).2 = 0) : bt_ x (es.drop k) k = bt_ (bR_ x es[k]).1 (es.drop (k + 1)) (k + 1) := by
 rw [c1_ h, bt_, if_pos h0]
theorem ij_ {x : ad_} {es : List ab_} {k : Nat} (h : k < es.length) (h0 : ¬ (bR_ x es[k]).2 = 0) : bt_ x (es.drop k) k = (⟨[]⟩, (k : Int), (bR_ x es[k]).2) := by
 rw [c1_ h, bt_, if_neg h0]
theorem lX_ {x : ad_} {es : List ab_} {k : Nat} (h : es.length ≤ k) : bt_ x (es.drop k) k = (x, 0, 0) := by
 rw [List.drop_eq_nil_of_le h, bt_]
end Go.Proofs.YtfkddbkjmkceaaaGreatDoor
