/-
 Contracts of functions of this program, over abstract values. Conditions: as each theorem says.
-/
import Derived.Test.YtfplhbjggecnpaaGreatDoorFnTS
import Derived.Test.YtfplhbjggecnpaaGreatDoorAwC
namespace Go.Proofs.YtfplhbjggecnpaaGreatDoor
open List
open Go.AW
set_option linter.unusedVariables false
set_option linter.unusedSimpArgs false
set_option maxRecDepth 4000
theorem qV_ (a b : List UInt8) : decide (dj_ a b < 0) = before a b := by
 rw [Bool.eq_iff_iff, decide_eq_true_eq, iY_]
def Cx_ : LC :=
 .seq (.ops [.s 4 (.mov (.const (.bool false)))]) (.seq (.ops [.m 5 0, .m 6 1, .c2 7 174 5 6, .bk 8 .lss false 7 0, .m 4 8]) .ret)
def wY_ : LF := ⟨2, 9, Cx_, [.tmp 4]⟩
theorem CZ_ : at_ Tryz.prog Tryz.f188 wY_ := ai_
theorem dF_ (a b : ByteArray) (ha : a.size ≤ 1048576) (hbb : b.size ≤ 1048576) (h : List Row) : aa_ Tryz.prog 188 [.val (.string a), .val (.string b)] h (.val (.bool (before a.data.toList b.data.toList))) := by
 refine aj_ mixed Tryz.func188 CZ_ rfl rfl ?_ h
 simp (disch := omega) only [wY_, Cx_, go_sem, Nat.reduceEqDiff, reduceCtorEq, ↓reduceIte]
 repeat' (first
  | exact af_ _ _
  | exact ae_ (qV_ _ _)
  | simp (disch := omega) only [go_sem, ↓reduceIte]
  | (refine aa_.call (eU_ _ _ ha hbb _) ?_)
  | (refine aa_.q (eU_ _ _ ha hbb _) ?_)
  | ((first | (apply aF_; assumption) | (apply aE_; assumption) | (apply aN_; assumption) | (apply aO_; assumption)); intro hb; try simp only [hb])
  | ((first | apply ak_ | apply an_) <;> intro hb <;> (try simp only [hb]) <;> (first | have hp := aV_ hb | have hp := aU_ hb | have hp := aW_ hb | have hp := aX_ hb | skip)))
def dH_ (n : ByteArray) (s : List ByteArray) (a : ac_) : Bool := decide (a.Name = n) && decide (s.length ≤ a.Subs.length) && bm_ (a.Subs.take (s.length - 1)) (s.take (s.length - 1))
def a0_ (back : Bool) (last best t : ByteArray) : Bool :=
 if back = true then (decide (last = txt []) || before t.data.toList last.data.toList) && (decide (best = txt []) || before best.data.toList t.data.toList)
 else (decide (last = txt []) || before last.data.toList t.data.toList) && (decide (best = txt []) || before t.data.toList best.data.toList)
def fr_ (n : ByteArray) (s : List ByteArray) (back : Bool) (last best : ByteArray) (a : ac_) : ByteArray :=
 match a.Subs[s.length - 1]? with
 | some t => if (dH_ n s a && a0_ back last best t) = true then t else best
 | none => best
def fI_ (x : ad_) (n : ByteArray) (s : List ByteArray) (back : Bool) : ByteArray := x.Nodes.foldl (fr_ n s back (s.getD (s.length - 1) (txt []))) (txt [])
theorem m8_ {n : ByteArray} {s : List ByteArray} {back : Bool} {last best : ByteArray} {a : ac_} (h : dH_ n s a = false) : fr_ n s back last best a = best := by
 unfold fr_; split <;> simp [h]
theorem nW_ {n : ByteArray} {s : List ByteArray} {back : Bool} {last best : ByteArray} {a : ac_} (h : dH_ n s a = true) (hl : s.length - 1 < a.Subs.length) : fr_ n s back last best a = if a0_ back last best a.Subs[s.length - 1] = true then a.Subs[s.length - 1] else best := by
 unfold fr_; rw [getElem?_eq_getElem hl]; simp only [h, Bool.true_and]
theorem mL_ {s us : List ByteArray} (h : s.length - 1 ≤ us.length) : cW_ (s.take (s.length - 1)) us = bm_ (us.take (s.length - 1)) (s.take (s.length - 1)) := by
 have hl : (s.take (s.length - 1)).length = s.length - 1 := by rw [length_take]; omega
 unfold cW_ bm_
 rw [hl, decide_eq_true h, Bool.true_and]
 exact il_ _ mk_ _ _
def Cy_ : LC :=
 .seq (.ops [.s 4 (.box 30 (.tmp 0)), .s 8 (.mov (.const (.string ⟨#[]⟩)))]) (.seq (.ops [.m 15 2, .ll 16 15, .m 9 16, .s 10 (.mov (.const (.string ⟨#[]⟩)))]) (.seq (.ops [.m 17 2, .m 18 9, .bk 19 .sub false 18 1, .ia 20
 1 17 19, .ln 21 20, .m 11 21]) (.seq (.seq (.ops [.fa 22 0 4, .ln 23 22, .ll 24 23, .ki 25 0]) (.block 0 (.loop (.seq (.ops [.bb 26 .lss false 25 24]) (.seq (.cond (.tmp 26) .skip (.exit 0)) (.seq (.block 1 (.seq (.ops
 [.ia 27 3 23 25, .ld 28 3 27, .s 13 (.alloc 112 (.agg #[.string ⟨#[]⟩, .slice none 0 0, .string ⟨#[]⟩])), .st 3 13 28]) (.seq (.seq (.dops [.fa 29 0 13, .ln 30 29, .m 31 1, .bb 32 .neq false 30 31, .m 33 32, .g 34 33
 false (.fieldAddr 1 (.tmp 13)), .g 35 33 false (.load none (.tmp 34)), .g 36 33 false (.lenSl (.tmp 35)), .g 37 33 false (.mov (.tmp 9)), .g 38 33 false (.bin .lss false (.tmp 36) (.tmp 37)), .pt 39 33 38, .m 40 39, .g
 41 40 false (.fieldAddr 1 (.tmp 13)), .g 42 40 false (.load none (.tmp 41)), .g 43 40 false (.mov (.tmp 9)), .g 44 40 false (.bin .sub false (.tmp 43) (.const (.int .i64 1))), .g 45 40 false (.sliceSl 1 (.tmp 42) none
 (some (.tmp 44))), .g 46 40 false (.mov (.tmp 2)), .g 47 40 false (.mov (.tmp 9)), .g 48 40 false (.bin .sub false (.tmp 47) (.const (.int .i64 1))), .g 49 40 false (.sliceSl 1 (.tmp 46) none (some (.tmp 48))), .g 50 40
 false (.call 147 [.tmp 45, .tmp 49]), .g 51 40 false (.un .not (.tmp 50)), .pt 52 40 51]) (.cond (.tmp 52) (.exit 1) .skip)) (.seq (.ops [.fa 53 1 13, .ln 54 53, .m 55 9, .bk 56 .sub false 55 1, .ia 57 1 54 56, .ln 58
 57, .m 14 58]) (.seq (.ops [.m 59 3]) (.cond (.tmp 59) (.seq (.ops [.m 60 11, .s 61 (.bin .eql false (.tmp 60) (.const (.string ⟨#[]⟩))), .m 62 61, .g 63 62 false (.mov (.tmp 14)), .g 64 62 false (.mov (.tmp 11)), .g 65
 62 false (.call 188 [.tmp 63, .tmp 64]), .pt 66 62 65, .m 67 66, .g 68 67 true (.mov (.tmp 10)), .g 69 67 true (.bin .eql false (.tmp 68) (.const (.string ⟨#[]⟩))), .g 70 67 true (.mov (.tmp 69)), .g 71 70 false (.mov
 (.tmp 10)), .g 72 70 false (.mov (.tmp 14)), .g 73 70 false (.call 188 [.tmp 71, .tmp 72]), .g 74 67 true (.pick (.tmp 70) (.const (.bool true)) (.tmp 73)), .pf 75 67 74]) (.cond (.tmp 75) (.ops [.m 76 14, .m 10 76])
 .skip)) (.seq (.ops [.m 77 11, .s 78 (.bin .eql false (.tmp 77) (.const (.string ⟨#[]⟩))), .m 79 78, .g 80 79 false (.mov (.tmp 11)), .g 81 79 false (.mov (.tmp 14)), .g 82 79 false (.call 188 [.tmp 80, .tmp 81]), .pt 83
 79 82, .m 84 83, .g 85 84 true (.mov (.tmp 10)), .g 86 84 true (.bin .eql false (.tmp 85) (.const (.string ⟨#[]⟩))), .g 87 84 true (.mov (.tmp 86)), .g 88 87 false (.mov (.tmp 14)), .g 89 87 false (.mov (.tmp 10)), .g 90
 87 false (.call 188 [.tmp 88, .tmp 89]), .g 91 84 true (.pick (.tmp 87) (.const (.bool true)) (.tmp 90)), .pf 92 84 91]) (.cond (.tmp 92) (.ops [.m 93 14, .m 10 93]) .skip)))))))) (.ops [.bk 94 .add false 25 1, .m 25
 94]))))))) (.seq (.ops [.m 95 10, .m 8 95]) .ret))))
def xN_ : LF := ⟨4, 96, Cy_, [.tmp 8]⟩
theorem Dk_ : at_ Tryz.prog Tryz.f151 xN_ := ai_
def CP_ : LC :=
 .seq (.ops [.s 4 (.box 30 (.tmp 0)), .s 8 (.mov (.const (.string ⟨#[]⟩)))]) (.seq (.ops [.m 15 2, .ll 16 15, .m 9 16]) (.seq (.ops [.m 17 2, .m 18 9, .bk 19 .sub false 18 1, .ia 20 1 17 19, .ln 21 20, .m 10 21, .s 11
 (.mov (.const (.string ⟨#[]⟩)))]) (.seq (.seq (.ops [.ki 12 0]) (.block 0 (.loop (.seq (.seq (.ops [.m 22 12, .fa 23 0 4, .ln 24 23, .ll 25 24, .bb 26 .lss false 22 25]) (.cond (.tmp 26) .skip (.exit 0))) (.seq (.block 1
 (.seq (.ops [.fa 29 0 4, .ln 30 29, .m 31 12, .ia 32 3 30 31, .ld 33 3 32, .s 13 (.alloc 112 (.agg #[.string ⟨#[]⟩, .slice none 0 0, .string ⟨#[]⟩])), .st 3 13 33]) (.seq (.seq (.dops [.fa 34 0 13, .ln 35 34, .m 36 1,
 .bb 37 .neq false 35 36, .m 38 37, .g 39 38 false (.fieldAddr 1 (.tmp 13)), .g 40 38 false (.load none (.tmp 39)), .g 41 38 false (.lenSl (.tmp 40)), .g 42 38 false (.mov (.tmp 9)), .g 43 38 false (.bin .lss false (.tmp
 41) (.tmp 42)), .pt 44 38 43, .m 45 44, .g 46 45 false (.fieldAddr 1 (.tmp 13)), .g 47 45 false (.load none (.tmp 46)), .g 48 45 false (.mov (.tmp 2)), .g 49 45 false (.mov (.tmp 9)), .g 50 45 false (.bin .sub false
 (.tmp 49) (.const (.int .i64 1))), .g 51 45 false (.sliceSl 1 (.tmp 48) none (some (.tmp 50))), .g 52 45 false (.call 199 [.tmp 47, .tmp 51]), .g 53 45 false (.un .not (.tmp 52)), .pt 54 45 53]) (.cond (.tmp 54) (.exit
 1) .skip)) (.seq (.ops [.fa 55 1 13, .ln 56 55, .m 57 9, .bk 58 .sub false 57 1, .ia 59 1 56 58, .ln 60 59, .m 14 60]) (.seq (.seq (.ops [.m 61 3, .m 62 61, .g 63 62 true (.mov (.tmp 10)), .g 64 62 true (.bin .eql false
 (.tmp 63) (.const (.string ⟨#[]⟩))), .g 65 62 true (.mov (.tmp 64)), .g 66 65 false (.mov (.tmp 14)), .g 67 65 false (.mov (.tmp 10)), .g 68 65 false (.call 200 [.tmp 66, .tmp 67]), .g 69 62 true (.pick (.tmp 65) (.const
 (.bool true)) (.tmp 68)), .pf 70 62 69, .m 71 70, .g 72 71 true (.mov (.tmp 11)), .g 73 71 true (.bin .eql false (.tmp 72) (.const (.string ⟨#[]⟩))), .g 74 71 true (.mov (.tmp 73)), .g 75 74 false (.mov (.tmp 11)), .g 76
 74 false (.mov (.tmp 14)), .g 77 74 false (.call 200 [.tmp 75, .tmp 76]), .g 78 71 true (.pick (.tmp 74) (.const (.bool true)) (.tmp 77)), .pf 79 71 78]) (.cond (.tmp 79) (.ops [.m 80 14, .m 11 80]) .skip)) (.seq (.ops
 [.m 81 3, .nt 82 81, .m 83 82, .g 84 83 true (.mov (.tmp 10)), .g 85 83 true (.bin .eql false (.tmp 84) (.const (.string ⟨#[]⟩))), .g 86 83 true (.mov (.tmp 85)), .g 87 86 false (.mov (.tmp 10)), .g 88 86 false (.mov
 (.tmp 14)), .g 89 86 false (.call 200 [.tmp 87, .tmp 88]), .g 90 83 true (.pick (.tmp 86) (.const (.bool true)) (.tmp 89)), .pf 91 83 90, .m 92 91, .g 93 92 true (.mov (.tmp 11)), .g 94 92 true (.bin .eql false (.tmp 93)
 (.const (.string ⟨#[]⟩))), .g 95 92 true (.mov (.tmp 94)), .g 96 95 false (.mov (.tmp 14)), .g 97 95 false (.mov (.tmp 11)), .g 98 95 false (.call 200 [.tmp 96, .tmp 97]), .g 99 92 true (.pick (.tmp 95) (.const (.bool
 true)) (.tmp 98)), .pf 100 92 99]) (.cond (.tmp 100) (.ops [.m 101 14, .m 11 101]) .skip))))))) (.ops [.m 27 12, .bk 28 .add false 27 1, .m 12 28])))))) (.seq (.ops [.m 102 11, .m 8 102]) .ret))))
def xf_ : LF := ⟨4, 103, CP_, [.tmp 8]⟩
theorem zU_ : at_ Tryz.prog Tryz.f168 xf_ := ai_
theorem k4_ (x : ad_) (n : ByteArray) (s : List ByteArray) (back : Bool) (hx : ad_.sz x ≤ 1048576) (hs : ao_ ByteArray.size s ≤ 1048576) (h0 : 0 < s.length) (h : List Row) : aa_ Tryz.prog 151 [.agg (ad_.cells x), .val (.string n), .list 0 1 (s.map am_), .val (.bool back)] h (.val (.string (fI_ x n s back))) := by
 refine aj_ mixed Tryz.func151 Dk_ rfl rfl ?_ h
 have hz := ad_.sz_Nodes hx
 have hl := ax_ hz
 have hsl := ax_ hs
 have hm : ∀ a ∈ x.Nodes, ac_.sz a ≤ 1048576 := fun a ha => b6_ hz ha
 have hn1 : (s.length : Int) - 1 = ((s.length - 1 : Nat) : Int) := by omega
 have hlast : s.length - 1 < s.length := by omega
 have hlz := eS_ hs (getElem_mem hlast)
 have hO : fI_ x n s back = x.Nodes.foldl (fr_ n s back s[s.length - 1]) (txt []) := by unfold fI_; rw [getD_eq_getElem?_getD, getElem?_eq_getElem hlast, Option.getD_some]
 rw [hO]
 simp (disch := omega) only [xN_, Cy_, ad_.cells, hn1, aq_, am_, go_sem, Nat.reduceEqDiff, ↓reduceIte]
 refine aL_ (fun m t h => ∃ (k : Nat) (best : ByteArray), t 4 = .ptr 0 1 0 0 ∧ t 1 = .val (.string n) ∧ t 2 = .list 0 1 (s.map am_) ∧ t 3 = .val (.bool back) ∧ t 9 = .val (.int .i64 s.length) ∧ t 11 = .val (.string s[s.length - 1]) ∧ t 10 = .val (.string best) ∧ t 23 = .list 0 3 (x.Nodes.map ac_.cells) ∧ t 24 = .val (.int .i64 x.Nodes.length) ∧ t 25 = .val (.int .i64 k) ∧ h[0]? = some ⟨30, 1, [[.list 0 3 (x.Nodes.map ac_.cells)]]⟩ ∧ m = x.Nodes.length - k ∧ k ≤ x.Nodes.length ∧ best.size ≤ 1048576 ∧ best = (x.Nodes.take k).foldl (fr_ n s back s[s.length - 1]) (txt [])) x.Nodes.length ⟨0, txt [], rfl, rfl, rfl, rfl, rfl, rfl, rfl, rfl, rfl, rfl, rfl, rfl, Nat.zero_le _, by simp [b9_], rfl⟩ ?_
 rintro J hJ m t h ⟨k, best, t4, t1, t2, t3, t9, tL, tB, t23, t24, t25, o0, rfl, hk, hbz, hS⟩
 have w0 := fun l => a1_ (l := l) o0
 by_cases hlt : k < x.Nodes.length
 ·have hb := hm _ (getElem_mem hlt)
  have hbs := ax_ (ac_.sz_Subs hb)
  have hnx : ∀ (t' : Nat → AV) (b' : ByteArray) (h' : List Row), t' 4 = t 4 → t' 1 = t 1 → t' 2 = t 2 → t' 3 = t 3 → t' 9 = t 9 → t' 11 = t 11 → t' 10 = .val (.string b') → t' 23 = t 23 → t' 24 = t 24 → t' 25 = .val (.int .i64 (k + 1 : Nat)) → h'[0]? = h[0]? → b'.size ≤ 1048576 → b' = fr_ n s back s[s.length - 1] best x.Nodes[k] → ∃ m, m < x.Nodes.length - k ∧ J m t' h' :=
   fun t' b' h' e4 e1 e2 e3 e9 eL eB e23 e24 e25 e0 ez ec => ⟨x.Nodes.length - (k + 1), by omega, hJ _ _ _ ⟨k + 1, b', e4.trans t4, e1.trans t1, e2.trans t2, e3.trans t3, e9.trans t9, eL.trans tL, eB, e23.trans t23, e24.trans t24, e25, e0.trans o0, rfl, by omega, ez, by rw [ec, ja_ _ _ _ hlt, ← hS]⟩⟩
  have hmiss : dH_ n s x.Nodes[k] = false → ∀ (t' : Nat → AV) (h' : List Row), t' 4 = t 4 → t' 1 = t 1 → t' 2 = t 2 → t' 3 = t 3 → t' 9 = t 9 → t' 11 = t 11 → t' 10 = .val (.string best) → t' 23 = t 23 → t' 24 = t 24 → t' 25 = .val (.int .i64 (k + 1 : Nat)) → h'[0]? = h[0]? → ∃ m, m < x.Nodes.length - k ∧ J m t' h' :=
   fun q t' h' e4 e1 e2 e3 e9 eL eB e23 e24 e25 e0 => hnx t' best h' e4 e1 e2 e3 e9 eL eB e23 e24 e25 e0 hbz (m8_ q).symm
  by_cases q1 : x.Nodes[k].Name = n
  case neg =>
   have q1' : (x.Nodes[k].Name = n) = False := eq_false q1
   simp (disch := omega) only [t1, t3, t9, tL, tB, t23, t24, t25, q1', hlt, ac_.cells, ag_, go_sem, Nat.reduceEqDiff, Nat.reduceAdd, ↓reduceIte]
   exact hmiss (by simp [dH_, q1]) _ _ (by simp [upd]) (by simp [upd]) (by simp [upd]) (by simp [upd]) (by simp [upd]) (by simp [upd]) (by simp [upd, tB]) (by simp [upd]) (by simp [upd]) (by simp [upd]) (by first | rfl | (rw [w0, o0]))
  have q1' : (x.Nodes[k].Name = n) = True := eq_true q1
  by_cases q2 : s.length ≤ x.Nodes[k].Subs.length
  case neg =>
   have q2' : ((x.Nodes[k].Subs.length : Int) < (s.length : Int)) = True := eq_true (by omega)
   simp (disch := omega) only [t1, t3, t9, tL, tB, t23, t24, t25, q1', q2', hlt, ac_.cells, ag_, go_sem, Nat.reduceEqDiff, Nat.reduceAdd, ↓reduceIte]
   exact hmiss (by simp [dH_, q2]) _ _ (by simp [upd]) (by simp [upd]) (by simp [upd]) (by simp [upd]) (by simp [upd]) (by simp [upd]) (by simp [upd, tB]) (by simp [upd]) (by simp [upd]) (by simp [upd]) (by first | rfl | (rw [w0, o0]))
  have q2' : ((x.Nodes[k].Subs.length : Int) < (s.length : Int)) = False := eq_false (by omega)
  have q2n : s.length - 1 ≤ x.Nodes[k].Subs.length := by omega
  have q2l : s.length - 1 < x.Nodes[k].Subs.length := by omega
  have q2s : s.length - 1 ≤ s.length := by omega
  have htz := eS_ (ac_.sz_Subs hb) (getElem_mem q2l)
  simp (disch := omega) only [t1, t2, t3, t9, tL, tB, t23, t24, t25, q1', q2', q2n, q2s, hn1, hlt, bG_, fh_, aq_, ac_.cells, ag_, go_sem, Nat.reduceEqDiff, Nat.reduceAdd, ↓reduceIte]
  refine aa_.q (de_ (x.Nodes[k].Subs.take (s.length - 1)) (s.take (s.length - 1)) (by rw [length_take]; omega) _) ?_
  by_cases q3 : bm_ (x.Nodes[k].Subs.take (s.length - 1)) (s.take (s.length - 1)) = true
  case neg =>
   have q3' : bm_ (x.Nodes[k].Subs.take (s.length - 1)) (s.take (s.length - 1)) = false := by simpa using q3
   have q3n := q3'
   simp (disch := omega) only [q3n, go_sem]
   exact hmiss (by simp [dH_, q3']) _ _ (by simp [upd]) (by simp [upd]) (by simp [upd]) (by simp [upd]) (by simp [upd]) (by simp [upd]) (by simp [upd, tB]) (by simp [upd]) (by simp [upd]) (by simp [upd]) (by first | rfl | (rw [w0, o0]))
  have hhit : dH_ n s x.Nodes[k] = true := by simp [dH_, q1, q2, q3]
  have hst := nW_ (back := back) (last := s[s.length - 1]) (best := best) hhit q2l
  have q3n := q3
  clear hmiss
  cases back
  ·by_cases eL : s[s.length - 1] = txt []
   ·have eL' : (s[s.length - 1] = txt []) = True := eq_true eL
    simp (disch := omega) only [tB, q3n, am_, eL', go_sem, Nat.reduceEqDiff, ↓reduceIte]
    by_cases eB : best = txt []
    ·have eB' : (best = txt []) = True := eq_true eB
     simp (disch := omega) only [t25, aq_, eB', ag_, go_sem, Nat.reduceEqDiff, ↓reduceIte]
     have hbt : a0_ false s[s.length - 1] best x.Nodes[k].Subs[s.length - 1] = true := by unfold a0_; simp [eL, eB]
     rw [hbt] at hst
     exact hnx _ (x.Nodes[k].Subs[s.length - 1]) _ (by simp [upd]) (by simp [upd]) (by simp [upd]) (by simp [upd]) (by simp [upd]) (by simp [upd]) (by simp [upd]) (by simp [upd]) (by simp [upd]) (by simp [upd]) (by first | rfl | (rw [w0, o0])) htz (by rw [hst]; simp)
    ·have eB' : (best = txt []) = False := eq_false eB
     simp (disch := omega) only [tB, eB', go_sem, Nat.reduceEqDiff, ↓reduceIte]
     refine aa_.call (dF_ _ _ htz hbz _) ?_
     cases c2 : before x.Nodes[k].Subs[s.length - 1].data.toList best.data.toList
     ·skip
      simp (disch := omega) only [t25, aq_, ag_, go_sem, Nat.reduceEqDiff, ↓reduceIte]
      have hbt : a0_ false s[s.length - 1] best x.Nodes[k].Subs[s.length - 1] = false := by unfold a0_; simp [eL, eB, c2]
      rw [hbt] at hst
      exact hnx _ (best) _ (by simp [upd]) (by simp [upd]) (by simp [upd]) (by simp [upd]) (by simp [upd]) (by simp [upd]) (by simp [upd, tB]) (by simp [upd]) (by simp [upd]) (by simp [upd]) (by first | rfl | (rw [w0, o0])) hbz (by rw [hst]; simp)
     ·skip
      simp (disch := omega) only [t25, aq_, ag_, go_sem, Nat.reduceEqDiff, ↓reduceIte]
      have hbt : a0_ false s[s.length - 1] best x.Nodes[k].Subs[s.length - 1] = true := by unfold a0_; simp [eL, eB, c2]
      rw [hbt] at hst
      exact hnx _ (x.Nodes[k].Subs[s.length - 1]) _ (by simp [upd]) (by simp [upd]) (by simp [upd]) (by simp [upd]) (by simp [upd]) (by simp [upd]) (by simp [upd]) (by simp [upd]) (by simp [upd]) (by simp [upd]) (by first | rfl | (rw [w0, o0])) htz (by rw [hst]; simp)
   ·have eL' : (s[s.length - 1] = txt []) = False := eq_false eL
    simp (disch := omega) only [tL, q3n, am_, eL', go_sem, Nat.reduceEqDiff, ↓reduceIte]
    refine aa_.call (dF_ _ _ hlz htz _) ?_
    cases c1 : before s[s.length - 1].data.toList x.Nodes[k].Subs[s.length - 1].data.toList
    ·skip
     simp (disch := omega) only [t25, aq_, ag_, go_sem, Nat.reduceEqDiff, ↓reduceIte]
     have hbt : a0_ false s[s.length - 1] best x.Nodes[k].Subs[s.length - 1] = false := by unfold a0_; simp [eL, c1]
     rw [hbt] at hst
     exact hnx _ (best) _ (by simp [upd]) (by simp [upd]) (by simp [upd]) (by simp [upd]) (by simp [upd]) (by simp [upd]) (by simp [upd, tB]) (by simp [upd]) (by simp [upd]) (by simp [upd]) (by first | rfl | (rw [w0, o0])) hbz (by rw [hst]; simp)
    ·skip
     simp (disch := omega) only [tB, go_sem, Nat.reduceEqDiff, ↓reduceIte]
     by_cases eB : best = txt []
     ·have eB' : (best = txt []) = True := eq_true eB
      simp (disch := omega) only [t25, aq_, eB', ag_, go_sem, Nat.reduceEqDiff, ↓reduceIte]
      have hbt : a0_ false s[s.length - 1] best x.Nodes[k].Subs[s.length - 1] = true := by unfold a0_; simp [eL, c1, eB]
      rw [hbt] at hst
      exact hnx _ (x.Nodes[k].Subs[s.length - 1]) _ (by simp [upd]) (by simp [upd]) (by simp [upd]) (by simp [upd]) (by simp [upd]) (by simp [upd]) (by simp [upd]) (by simp [upd]) (by simp [upd]) (by simp [upd]) (by first | rfl | (rw [w0, o0])) htz (by rw [hst]; simp)
     ·have eB' : (best = txt []) = False := eq_false eB
      simp (disch := omega) only [tB, eB', go_sem, Nat.reduceEqDiff, ↓reduceIte]
      refine aa_.call (dF_ _ _ htz hbz _) ?_
      cases c2 : before x.Nodes[k].Subs[s.length - 1].data.toList best.data.toList
      ·skip
       simp (disch := omega) only [t25, aq_, ag_, go_sem, Nat.reduceEqDiff, ↓reduceIte]
       have hbt : a0_ false s[s.length - 1] best x.Nodes[k].Subs[s.length - 1] = false := by unfold a0_; simp [eL, c1, eB, c2]
       rw [hbt] at hst
       exact hnx _ (best) _ (by simp [upd]) (by simp [upd]) (by simp [upd]) (by simp [upd]) (by simp [upd]) (by simp [upd]) (by simp [upd, tB]) (by simp [upd]) (by simp [upd]) (by simp [upd]) (by first | rfl | (rw [w0, o0])) hbz (by rw [hst]; simp)
      ·skip
       simp (disch := omega) only [t25, aq_, ag_, go_sem, Nat.reduceEqDiff, ↓reduceIte]
       have hbt : a0_ false s[s.length - 1] best x.Nodes[k].Subs[s.length - 1] = true := by unfold a0_; simp [eL, c1, eB, c2]
       rw [hbt] at hst
       exact hnx _ (x.Nodes[k].Subs[s.length - 1]) _ (by simp [upd]) (by simp [upd]) (by simp [upd]) (by simp [upd]) (by simp [upd]) (by simp [upd]) (by simp [upd]) (by simp [upd]) (by simp [upd]) (by simp [upd]) (by first | rfl | (rw [w0, o0])) htz (by rw [hst]; simp)
  ·by_cases eL : s[s.length - 1] = txt []
   ·have eL' : (s[s.length - 1] = txt []) = True := eq_true eL
    simp (disch := omega) only [tB, q3n, am_, eL', go_sem, Nat.reduceEqDiff, ↓reduceIte]
    by_cases eB : best = txt []
    ·have eB' : (best = txt []) = True := eq_true eB
     simp (disch := omega) only [t25, aq_, eB', ag_, go_sem, Nat.reduceEqDiff, ↓reduceIte]
     have hbt : a0_ true s[s.length - 1] best x.Nodes[k].Subs[s.length - 1] = true := by unfold a0_; simp [eL, eB]
     rw [hbt] at hst
     exact hnx _ (x.Nodes[k].Subs[s.length - 1]) _ (by simp [upd]) (by simp [upd]) (by simp [upd]) (by simp [upd]) (by simp [upd]) (by simp [upd]) (by simp [upd]) (by simp [upd]) (by simp [upd]) (by simp [upd]) (by first | rfl | (rw [w0, o0])) htz (by rw [hst]; simp)
    ·have eB' : (best = txt []) = False := eq_false eB
     simp (disch := omega) only [tB, eB', go_sem, Nat.reduceEqDiff, ↓reduceIte]
     refine aa_.call (dF_ _ _ hbz htz _) ?_
     cases c2 : before best.data.toList x.Nodes[k].Subs[s.length - 1].data.toList
     ·skip
      simp (disch := omega) only [t25, aq_, ag_, go_sem, Nat.reduceEqDiff, ↓reduceIte]
      have hbt : a0_ true s[s.length - 1] best x.Nodes[k].Subs[s.length - 1] = false := by unfold a0_; simp [eL, eB, c2]
      rw [hbt] at hst
      exact hnx _ (best) _ (by simp [upd]) (by simp [upd]) (by simp [upd]) (by simp [upd]) (by simp [upd]) (by simp [upd]) (by simp [upd, tB]) (by simp [upd]) (by simp [upd]) (by simp [upd]) (by first | rfl | (rw [w0, o0])) hbz (by rw [hst]; simp)
     ·skip
      simp (disch := omega) only [t25, aq_, ag_, go_sem, Nat.reduceEqDiff, ↓reduceIte]
      have hbt : a0_ true s[s.length - 1] best x.Nodes[k].Subs[s.length - 1] = true := by unfold a0_; simp [eL, eB, c2]
      rw [hbt] at hst
      exact hnx _ (x.Nodes[k].Subs[s.length - 1]) _ (by simp [upd]) (by simp [upd]) (by simp [upd]) (by simp [upd]) (by simp [upd]) (by simp [upd]) (by simp [upd]) (by simp [upd]) (by simp [upd]) (by simp [upd]) (by first | rfl | (rw [w0, o0])) htz (by rw [hst]; simp)
   ·have eL' : (s[s.length - 1] = txt []) = False := eq_false eL
    simp (disch := omega) only [tL, q3n, am_, eL', go_sem, Nat.reduceEqDiff, ↓reduceIte]
    refine aa_.call (dF_ _ _ htz hlz _) ?_
    cases c1 : before x.Nodes[k].Subs[s.length - 1].data.toList s[s.length - 1].data.toList
    ·skip
     simp (disch := omega) only [t25, aq_, ag_, go_sem, Nat.reduceEqDiff, ↓reduceIte]
     have hbt : a0_ true s[s.length - 1] best x.Nodes[k].Subs[s.length - 1] = false := by unfold a0_; simp [eL, c1]
     rw [hbt] at hst
     exact hnx _ (best) _ (by simp [upd]) (by simp [upd]) (by simp [upd]) (by simp [upd]) (by simp [upd]) (by simp [upd]) (by simp [upd, tB]) (by simp [upd]) (by simp [upd]) (by simp [upd]) (by first | rfl | (rw [w0, o0])) hbz (by rw [hst]; simp)
    ·skip
     simp (disch := omega) only [tB, go_sem, Nat.reduceEqDiff, ↓reduceIte]
     by_cases eB : best = txt []
     ·have eB' : (best = txt []) = True := eq_true eB
      simp (disch := omega) only [t25, aq_, eB', ag_, go_sem, Nat.reduceEqDiff, ↓reduceIte]
      have hbt : a0_ true s[s.length - 1] best x.Nodes[k].Subs[s.length - 1] = true := by unfold a0_; simp [eL, c1, eB]
      rw [hbt] at hst
      exact hnx _ (x.Nodes[k].Subs[s.length - 1]) _ (by simp [upd]) (by simp [upd]) (by simp [upd]) (by simp [upd]) (by simp [upd]) (by simp [upd]) (by simp [upd]) (by simp [upd]) (by simp [upd]) (by simp [upd]) (by first | rfl | (rw [w0, o0])) htz (by rw [hst]; simp)
     ·have eB' : (best = txt []) = False := eq_false eB
      simp (disch := omega) only [tB, eB', go_sem, Nat.reduceEqDiff, ↓reduceIte]
      refine aa_.call (dF_ _ _ hbz htz _) ?_
      cases c2 : before best.data.toList x.Nodes[k].Subs[s.length - 1].data.toList
      ·skip
       simp (disch := omega) only [t25, aq_, ag_, go_sem, Nat.reduceEqDiff, ↓reduceIte]
       have hbt : a0_ true s[s.length - 1] best x.Nodes[k].Subs[s.length - 1] = false := by unfold a0_; simp [eL, c1, eB, c2]
       rw [hbt] at hst
       exact hnx _ (best) _ (by simp [upd]) (by simp [upd]) (by simp [upd]) (by simp [upd]) (by simp [upd]) (by simp [upd]) (by simp [upd, tB]) (by simp [upd]) (by simp [upd]) (by simp [upd]) (by first | rfl | (rw [w0, o0])) hbz (by rw [hst]; simp)
      ·skip
       simp (disch := omega) only [t25, aq_, ag_, go_sem, Nat.reduceEqDiff, ↓reduceIte]
       have hbt : a0_ true s[s.length - 1] best x.Nodes[k].Subs[s.length - 1] = true := by unfold a0_; simp [eL, c1, eB, c2]
       rw [hbt] at hst
       exact hnx _ (x.Nodes[k].Subs[s.length - 1]) _ (by simp [upd]) (by simp [upd]) (by simp [upd]) (by simp [upd]) (by simp [upd]) (by simp [upd]) (by simp [upd]) (by simp [upd]) (by simp [upd]) (by simp [upd]) (by first | rfl | (rw [w0, o0])) htz (by rw [hst]; simp)
 ·simp (disch := omega) only [t1, tB, t23, t24, t25, hlt, ag_, go_sem, Nat.reduceEqDiff, Nat.reduceAdd, ↓reduceIte]
  refine bs_ ?_
  rw [hS, take_of_length_le (by omega)]
theorem id_ (x : ad_) (n : ByteArray) (s : List ByteArray) (back : Bool) (hx : ad_.sz x ≤ 1048576) (hs : ao_ ByteArray.size s ≤ 1048576) (h0 : 0 < s.length) (h : List Row) : aa_ Tryz.prog 168 [.agg (ad_.cells x), .val (.string n), .list 0 1 (s.map am_), .val (.bool back)] h (.val (.string (fI_ x n s back))) := by
 refine aj_ mixed Tryz.func168 zU_ rfl rfl ?_ h
 have hz := ad_.sz_Nodes hx
 have hl := ax_ hz
 have hsl := ax_ hs
 have hm : ∀ a ∈ x.Nodes, ac_.sz a ≤ 1048576 := fun a ha => b6_ hz ha
 have hn1 : (s.length : Int) - 1 = ((s.length - 1 : Nat) : Int) := by omega
 have hlast : s.length - 1 < s.length := by omega
 have hlz := eS_ hs (getElem_mem hlast)
 have hO : fI_ x n s back = x.Nodes.foldl (fr_ n s back s[s.length - 1]) (txt []) := by unfold fI_; rw [getD_eq_getElem?_getD, getElem?_eq_getElem hlast, Option.getD_some]
 rw [hO]
 simp (disch := omega) only [xf_, CP_, ad_.cells, hn1, aq_, am_, go_sem, Nat.reduceEqDiff, ↓reduceIte]
 refine aL_ (fun m t h => ∃ (k : Nat) (best : ByteArray), t 4 = .ptr 0 1 0 0 ∧ t 1 = .val (.string n) ∧ t 2 = .list 0 1 (s.map am_) ∧ t 3 = .val (.bool back) ∧ t 9 = .val (.int .i64 s.length) ∧ t 10 = .val (.string s[s.length - 1]) ∧ t 11 = .val (.string best) ∧ t 12 = .val (.int .i64 k) ∧ h[0]? = some ⟨30, 1, [[.list 0 3 (x.Nodes.map ac_.cells)]]⟩ ∧ m = x.Nodes.length - k ∧ k ≤ x.Nodes.length ∧ best.size ≤ 1048576 ∧ best = (x.Nodes.take k).foldl (fr_ n s back s[s.length - 1]) (txt [])) x.Nodes.length ⟨0, txt [], rfl, rfl, rfl, rfl, rfl, rfl, rfl, rfl, rfl, rfl, Nat.zero_le _, by simp [b9_], rfl⟩ ?_
 rintro J hJ m t h ⟨k, best, t4, t1, t2, t3, t9, tL, tB, t12, o0, rfl, hk, hbz, hS⟩
 have w0 := fun l => a1_ (l := l) o0
 by_cases hlt : k < x.Nodes.length
 ·have hb := hm _ (getElem_mem hlt)
  have hbs := ax_ (ac_.sz_Subs hb)
  have hnx : ∀ (t' : Nat → AV) (b' : ByteArray) (h' : List Row), t' 4 = t 4 → t' 1 = t 1 → t' 2 = t 2 → t' 3 = t 3 → t' 9 = t 9 → t' 10 = t 10 → t' 11 = .val (.string b') → t' 12 = .val (.int .i64 (k + 1 : Nat)) → h'[0]? = h[0]? → b'.size ≤ 1048576 → b' = fr_ n s back s[s.length - 1] best x.Nodes[k] → ∃ m, m < x.Nodes.length - k ∧ J m t' h' :=
   fun t' b' h' e4 e1 e2 e3 e9 eL eB e12 e0 ez ec => ⟨x.Nodes.length - (k + 1), by omega, hJ _ _ _ ⟨k + 1, b', e4.trans t4, e1.trans t1, e2.trans t2, e3.trans t3, e9.trans t9, eL.trans tL, eB, e12, e0.trans o0, rfl, by omega, ez, by rw [ec, ja_ _ _ _ hlt, ← hS]⟩⟩
  have hmiss : dH_ n s x.Nodes[k] = false → ∀ (t' : Nat → AV) (h' : List Row), t' 4 = t 4 → t' 1 = t 1 → t' 2 = t 2 → t' 3 = t 3 → t' 9 = t 9 → t' 10 = t 10 → t' 11 = .val (.string best) → t' 12 = .val (.int .i64 (k + 1 : Nat)) → h'[0]? = h[0]? → ∃ m, m < x.Nodes.length - k ∧ J m t' h' :=
   fun q t' h' e4 e1 e2 e3 e9 eL eB e12 e0 => hnx t' best h' e4 e1 e2 e3 e9 eL eB e12 e0 hbz (m8_ q).symm
  by_cases q1 : x.Nodes[k].Name = n
  case neg =>
   have q1' : (x.Nodes[k].Name = n) = False := eq_false q1
   simp (disch := omega) only [t4, t1, t3, t9, tB, t12, o0, q1', hlt, ac_.cells, ag_, go_sem, Nat.reduceEqDiff, Nat.reduceAdd, ↓reduceIte]
   exact hmiss (by simp [dH_, q1]) _ _ (by simp [upd]) (by simp [upd]) (by simp [upd]) (by simp [upd]) (by simp [upd]) (by simp [upd]) (by simp [upd, tB]) (by simp [upd]) (by first | rfl | (rw [w0, o0]))
  have q1' : (x.Nodes[k].Name = n) = True := eq_true q1
  by_cases q2 : s.length ≤ x.Nodes[k].Subs.length
  case neg =>
   have q2' : ((x.Nodes[k].Subs.length : Int) < (s.length : Int)) = True := eq_true (by omega)
   simp (disch := omega) only [t4, t1, t3, t9, tB, t12, o0, q1', q2', hlt, ac_.cells, ag_, go_sem, Nat.reduceEqDiff, Nat.reduceAdd, ↓reduceIte]
   exact hmiss (by simp [dH_, q2]) _ _ (by simp [upd]) (by simp [upd]) (by simp [upd]) (by simp [upd]) (by simp [upd]) (by simp [upd]) (by simp [upd, tB]) (by simp [upd]) (by first | rfl | (rw [w0, o0]))
  have q2' : ((x.Nodes[k].Subs.length : Int) < (s.length : Int)) = False := eq_false (by omega)
  have q2n : s.length - 1 ≤ x.Nodes[k].Subs.length := by omega
  have q2l : s.length - 1 < x.Nodes[k].Subs.length := by omega
  have q2s : s.length - 1 ≤ s.length := by omega
  have htz := eS_ (ac_.sz_Subs hb) (getElem_mem q2l)
  simp (disch := omega) only [t4, t1, t2, t3, t9, tB, t12, o0, q1', q2', q2s, hn1, hlt, bG_, fh_, aq_, ac_.cells, ag_, go_sem, Nat.reduceEqDiff, Nat.reduceAdd, ↓reduceIte]
  refine aa_.q (fz_ x.Nodes[k].Subs (s.take (s.length - 1)) hbs _) ?_
  by_cases q3 : bm_ (x.Nodes[k].Subs.take (s.length - 1)) (s.take (s.length - 1)) = true
  case neg =>
   have q3' : bm_ (x.Nodes[k].Subs.take (s.length - 1)) (s.take (s.length - 1)) = false := by simpa using q3
   have q3n : cW_ (s.take (s.length - 1)) x.Nodes[k].Subs = false := by rw [mL_ q2n]; exact q3'
   simp (disch := omega) only [q3n, go_sem]
   exact hmiss (by simp [dH_, q3']) _ _ (by simp [upd]) (by simp [upd]) (by simp [upd]) (by simp [upd]) (by simp [upd]) (by simp [upd]) (by simp [upd, tB]) (by simp [upd]) (by first | rfl | (rw [w0, o0]))
  have hhit : dH_ n s x.Nodes[k] = true := by simp [dH_, q1, q2, q3]
  have hst := nW_ (back := back) (last := s[s.length - 1]) (best := best) hhit q2l
  have q3n : cW_ (s.take (s.length - 1)) x.Nodes[k].Subs = true := by rw [mL_ q2n]; exact q3
  clear hmiss
  cases back
  ·by_cases eL : s[s.length - 1] = txt []
   ·have eL' : (s[s.length - 1] = txt []) = True := eq_true eL
    simp (disch := omega) only [t3, tL, tB, q3n, am_, eL', ag_, go_sem, Nat.reduceEqDiff, ↓reduceIte]
    by_cases eB : best = txt []
    ·have eB' : (best = txt []) = True := eq_true eB
     simp (disch := omega) only [t12, aq_, eB', ag_, go_sem, Nat.reduceEqDiff, ↓reduceIte]
     have hbt : a0_ false s[s.length - 1] best x.Nodes[k].Subs[s.length - 1] = true := by unfold a0_; simp [eL, eB]
     rw [hbt] at hst
     exact hnx _ (x.Nodes[k].Subs[s.length - 1]) _ (by simp [upd]) (by simp [upd]) (by simp [upd]) (by simp [upd]) (by simp [upd]) (by simp [upd]) (by simp [upd]) (by simp [upd]) (by first | rfl | (rw [w0, o0])) htz (by rw [hst]; simp)
    ·have eB' : (best = txt []) = False := eq_false eB
     simp (disch := omega) only [tB, eB', go_sem, Nat.reduceEqDiff, ↓reduceIte]
     refine aa_.call (dD_ _ _ htz hbz _) ?_
     cases c2 : before x.Nodes[k].Subs[s.length - 1].data.toList best.data.toList
     ·skip
      simp (disch := omega) only [t12, aq_, ag_, go_sem, Nat.reduceEqDiff, ↓reduceIte]
      have hbt : a0_ false s[s.length - 1] best x.Nodes[k].Subs[s.length - 1] = false := by unfold a0_; simp [eL, eB, c2]
      rw [hbt] at hst
      exact hnx _ (best) _ (by simp [upd]) (by simp [upd]) (by simp [upd]) (by simp [upd]) (by simp [upd]) (by simp [upd]) (by simp [upd, tB]) (by simp [upd]) (by first | rfl | (rw [w0, o0])) hbz (by rw [hst]; simp)
     ·skip
      simp (disch := omega) only [t12, aq_, ag_, go_sem, Nat.reduceEqDiff, ↓reduceIte]
      have hbt : a0_ false s[s.length - 1] best x.Nodes[k].Subs[s.length - 1] = true := by unfold a0_; simp [eL, eB, c2]
      rw [hbt] at hst
      exact hnx _ (x.Nodes[k].Subs[s.length - 1]) _ (by simp [upd]) (by simp [upd]) (by simp [upd]) (by simp [upd]) (by simp [upd]) (by simp [upd]) (by simp [upd]) (by simp [upd]) (by first | rfl | (rw [w0, o0])) htz (by rw [hst]; simp)
   ·have eL' : (s[s.length - 1] = txt []) = False := eq_false eL
    simp (disch := omega) only [t3, tL, q3n, am_, eL', ag_, go_sem, Nat.reduceEqDiff, ↓reduceIte]
    refine aa_.call (dD_ _ _ hlz htz _) ?_
    cases c1 : before s[s.length - 1].data.toList x.Nodes[k].Subs[s.length - 1].data.toList
    ·skip
     simp (disch := omega) only [t12, aq_, ag_, go_sem, Nat.reduceEqDiff, ↓reduceIte]
     have hbt : a0_ false s[s.length - 1] best x.Nodes[k].Subs[s.length - 1] = false := by unfold a0_; simp [eL, c1]
     rw [hbt] at hst
     exact hnx _ (best) _ (by simp [upd]) (by simp [upd]) (by simp [upd]) (by simp [upd]) (by simp [upd]) (by simp [upd]) (by simp [upd, tB]) (by simp [upd]) (by first | rfl | (rw [w0, o0])) hbz (by rw [hst]; simp)
    ·skip
     simp (disch := omega) only [tB, go_sem, Nat.reduceEqDiff, ↓reduceIte]
     by_cases eB : best = txt []
     ·have eB' : (best = txt []) = True := eq_true eB
      simp (disch := omega) only [t12, aq_, eB', ag_, go_sem, Nat.reduceEqDiff, ↓reduceIte]
      have hbt : a0_ false s[s.length - 1] best x.Nodes[k].Subs[s.length - 1] = true := by unfold a0_; simp [eL, c1, eB]
      rw [hbt] at hst
      exact hnx _ (x.Nodes[k].Subs[s.length - 1]) _ (by simp [upd]) (by simp [upd]) (by simp [upd]) (by simp [upd]) (by simp [upd]) (by simp [upd]) (by simp [upd]) (by simp [upd]) (by first | rfl | (rw [w0, o0])) htz (by rw [hst]; simp)
     ·have eB' : (best = txt []) = False := eq_false eB
      simp (disch := omega) only [tB, eB', go_sem, Nat.reduceEqDiff, ↓reduceIte]
      refine aa_.call (dD_ _ _ htz hbz _) ?_
      cases c2 : before x.Nodes[k].Subs[s.length - 1].data.toList best.data.toList
      ·skip
       simp (disch := omega) only [t12, aq_, ag_, go_sem, Nat.reduceEqDiff, ↓reduceIte]
       have hbt : a0_ false s[s.length - 1] best x.Nodes[k].Subs[s.length - 1] = false := by unfold a0_; simp [eL, c1, eB, c2]
       rw [hbt] at hst
       exact hnx _ (best) _ (by simp [upd]) (by simp [upd]) (by simp [upd]) (by simp [upd]) (by simp [upd]) (by simp [upd]) (by simp [upd, tB]) (by simp [upd]) (by first | rfl | (rw [w0, o0])) hbz (by rw [hst]; simp)
      ·skip
       simp (disch := omega) only [t12, aq_, ag_, go_sem, Nat.reduceEqDiff, ↓reduceIte]
       have hbt : a0_ false s[s.length - 1] best x.Nodes[k].Subs[s.length - 1] = true := by unfold a0_; simp [eL, c1, eB, c2]
       rw [hbt] at hst
       exact hnx _ (x.Nodes[k].Subs[s.length - 1]) _ (by simp [upd]) (by simp [upd]) (by simp [upd]) (by simp [upd]) (by simp [upd]) (by simp [upd]) (by simp [upd]) (by simp [upd]) (by first | rfl | (rw [w0, o0])) htz (by rw [hst]; simp)
  ·by_cases eL : s[s.length - 1] = txt []
   ·have eL' : (s[s.length - 1] = txt []) = True := eq_true eL
    simp (disch := omega) only [tL, tB, q3n, am_, eL', go_sem, Nat.reduceEqDiff, ↓reduceIte]
    by_cases eB : best = txt []
    ·have eB' : (best = txt []) = True := eq_true eB
     simp (disch := omega) only [t3, t12, aq_, eB', ag_, go_sem, Nat.reduceEqDiff, ↓reduceIte]
     have hbt : a0_ true s[s.length - 1] best x.Nodes[k].Subs[s.length - 1] = true := by unfold a0_; simp [eL, eB]
     rw [hbt] at hst
     exact hnx _ (x.Nodes[k].Subs[s.length - 1]) _ (by simp [upd]) (by simp [upd]) (by simp [upd]) (by simp [upd]) (by simp [upd]) (by simp [upd]) (by simp [upd]) (by simp [upd]) (by first | rfl | (rw [w0, o0])) htz (by rw [hst]; simp)
    ·have eB' : (best = txt []) = False := eq_false eB
     simp (disch := omega) only [tB, eB', go_sem, Nat.reduceEqDiff, ↓reduceIte]
     refine aa_.call (dD_ _ _ hbz htz _) ?_
     cases c2 : before best.data.toList x.Nodes[k].Subs[s.length - 1].data.toList
     ·skip
      simp (disch := omega) only [t3, t12, aq_, ag_, go_sem, Nat.reduceEqDiff, ↓reduceIte]
      have hbt : a0_ true s[s.length - 1] best x.Nodes[k].Subs[s.length - 1] = false := by unfold a0_; simp [eL, eB, c2]
      rw [hbt] at hst
      exact hnx _ (best) _ (by simp [upd]) (by simp [upd]) (by simp [upd]) (by simp [upd]) (by simp [upd]) (by simp [upd]) (by simp [upd, tB]) (by simp [upd]) (by first | rfl | (rw [w0, o0])) hbz (by rw [hst]; simp)
     ·skip
      simp (disch := omega) only [t3, t12, aq_, ag_, go_sem, Nat.reduceEqDiff, ↓reduceIte]
      have hbt : a0_ true s[s.length - 1] best x.Nodes[k].Subs[s.length - 1] = true := by unfold a0_; simp [eL, eB, c2]
      rw [hbt] at hst
      exact hnx _ (x.Nodes[k].Subs[s.length - 1]) _ (by simp [upd]) (by simp [upd]) (by simp [upd]) (by simp [upd]) (by simp [upd]) (by simp [upd]) (by simp [upd]) (by simp [upd]) (by first | rfl | (rw [w0, o0])) htz (by rw [hst]; simp)
   ·have eL' : (s[s.length - 1] = txt []) = False := eq_false eL
    simp (disch := omega) only [tL, q3n, am_, eL', go_sem, Nat.reduceEqDiff, ↓reduceIte]
    refine aa_.call (dD_ _ _ htz hlz _) ?_
    cases c1 : before x.Nodes[k].Subs[s.length - 1].data.toList s[s.length - 1].data.toList
    ·skip
     simp (disch := omega) only [t3, t12, aq_, ag_, go_sem, Nat.reduceEqDiff, ↓reduceIte]
     have hbt : a0_ true s[s.length - 1] best x.Nodes[k].Subs[s.length - 1] = false := by unfold a0_; simp [eL, c1]
     rw [hbt] at hst
     exact hnx _ (best) _ (by simp [upd]) (by simp [upd]) (by simp [upd]) (by simp [upd]) (by simp [upd]) (by simp [upd]) (by simp [upd, tB]) (by simp [upd]) (by first | rfl | (rw [w0, o0])) hbz (by rw [hst]; simp)
    ·skip
     simp (disch := omega) only [tB, go_sem, Nat.reduceEqDiff, ↓reduceIte]
     by_cases eB : best = txt []
     ·have eB' : (best = txt []) = True := eq_true eB
      simp (disch := omega) only [t3, t12, aq_, eB', ag_, go_sem, Nat.reduceEqDiff, ↓reduceIte]
      have hbt : a0_ true s[s.length - 1] best x.Nodes[k].Subs[s.length - 1] = true := by unfold a0_; simp [eL, c1, eB]
      rw [hbt] at hst
      exact hnx _ (x.Nodes[k].Subs[s.length - 1]) _ (by simp [upd]) (by simp [upd]) (by simp [upd]) (by simp [upd]) (by simp [upd]) (by simp [upd]) (by simp [upd]) (by simp [upd]) (by first | rfl | (rw [w0, o0])) htz (by rw [hst]; simp)
     ·have eB' : (best = txt []) = False := eq_false eB
      simp (disch := omega) only [tB, eB', go_sem, Nat.reduceEqDiff, ↓reduceIte]
      refine aa_.call (dD_ _ _ hbz htz _) ?_
      cases c2 : before best.data.toList x.Nodes[k].Subs[s.length - 1].data.toList
      ·skip
       simp (disch := omega) only [t3, t12, aq_, ag_, go_sem, Nat.reduceEqDiff, ↓reduceIte]
       have hbt : a0_ true s[s.length - 1] best x.Nodes[k].Subs[s.length - 1] = false := by unfold a0_; simp [eL, c1, eB, c2]
       rw [hbt] at hst
       exact hnx _ (best) _ (by simp [upd]) (by simp [upd]) (by simp [upd]) (by simp [upd]) (by simp [upd]) (by simp [upd]) (by simp [upd, tB]) (by simp [upd]) (by first | rfl | (rw [w0, o0])) hbz (by rw [hst]; simp)
      ·skip
       simp (disch := omega) only [t3, t12, aq_, ag_, go_sem, Nat.reduceEqDiff, ↓reduceIte]
       have hbt : a0_ true s[s.length - 1] best x.Nodes[k].Subs[s.length - 1] = true := by unfold a0_; simp [eL, c1, eB, c2]
       rw [hbt] at hst
       exact hnx _ (x.Nodes[k].Subs[s.length - 1]) _ (by simp [upd]) (by simp [upd]) (by simp [upd]) (by simp [upd]) (by simp [upd]) (by simp [upd]) (by simp [upd]) (by simp [upd]) (by first | rfl | (rw [w0, o0])) htz (by rw [hst]; simp)
 ·simp (disch := omega) only [t4, t1, tB, t12, o0, hlt, ag_, go_sem, Nat.reduceEqDiff, Nat.reduceAdd, ↓reduceIte]
  refine bs_ ?_
  rw [hS, take_of_length_le (by omega)]
def A0_ : LC :=
 .seq (.ops [.s 2 (.mov (.const (.slice none 0 0)))]) (.seq (.seq (.ops [.m 3 0, .s 4 (.isNil false (.tmp 3))]) (.cond (.tmp 4) (.seq (.ops [.s 2 (.mov (.const (.slice none 0 0)))]) (.ghost .ret)) .skip)) (.seq (.ops [.s
 5 (.buildSlice 9 1 (.string ⟨#[]⟩) 0 []), .m 6 0, .ap 7 9 1 16 5 6, .m 2 7]) (.ghost .ret)))
def xW_ : LF := ⟨1, 8, A0_, [.tmp 2]⟩
theorem C9_ : at_ Tryz.prog Tryz.f144 xW_ := ai_
theorem b1_ (xs : List ByteArray) (hx : xs.length ≤ 1048576) : aP_ Tryz.prog 144 [.list 0 1 (xs.map am_)] (.list 0 1 (xs.map am_)) (fun a => ∃ l, a = .own l xs.length) := by
 refine bT_ mixed Tryz.func144 C9_ rfl (fun h0 => ?_)
 have hv : ∀ e ∈ xs.map am_, ∀ c ∈ e, ∃ v, c = AV.val v := by
  intro e he c hc
  obtain ⟨x, _, q⟩ := mem_map.1 he; subst q
  simp only [am_, mem_cons, not_mem_nil, or_false] at hc
  first | (rcases hc with rfl) | (rcases hc with rfl | rfl) | (rcases hc with rfl | rfl | rfl)
  all_goals exact ⟨_, rfl⟩
 have hcell : ∀ e ∈ xs.map am_, e.all AV.cell = true := by
  intro e he
  obtain ⟨x, _, q⟩ := mem_map.1 he; subst q; rfl
 simp (disch := omega) only [xW_, A0_, go_sem, reduceCtorEq, ↓reduceIte]
 intro b hb
 cases b
 ·simp (disch := omega) only [bne_self_eq_false, go_sem, Nat.reduceEqDiff, reduceCtorEq, ↓reduceIte]
  refine ⟨by omega, by omega, hcell, ?_⟩
  try simp (disch := omega) only [go_sem, Nat.reduceEqDiff, Nat.reduceAdd, Nat.reduceLeDiff, reduceCtorEq, Int.reduceLT, Int.reduceLE, Int.reduceNeg, Int.reduceSub, Int.reduceAdd, Int.reduceToNat, ↓reduceIte]
  refine ml_ _ _ vo_ ?_
  simp (disch := omega) only [go_sem, ↓reduceIte]
  exact ⟨⟨aJ_.app _ _, (aA_.mkown (lo := h0.length + 1) (hi := h0.length + 1) (bt_.ofVals _ _ _ _ hv) (by rw [cy_]; rfl) (by simp) (Nat.le_refl _) (Nat.lt_succ_self _) (Nat.le_refl _)).widen (Nat.le_refl _) (by simp)⟩, _, rfl⟩
 ·have hx0 : xs = [] := by simpa using hb rfl
  subst hx0
  simp (disch := omega) only [Bool.bne_false, map_nil, go_sem]
  refine ml_ _ _ (tJ_ 2 9 1 rfl) ?_
  simp (disch := omega) only [go_sem, ↓reduceIte]
  exact ⟨⟨aJ_.app _ _, (aA_.mkown (lo := h0.length + 1) (hi := h0.length + 1) (bt_.nil _ _ _) (by rw [cy_]; rfl) (by simp) (Nat.le_refl _) (Nat.lt_succ_self _) (Nat.le_refl _)).widen (Nat.le_refl _) (by simp)⟩, _, rfl⟩
theorem rB_ {H : List Row} {l : Nat} {E : Tag} {xs : List ByteArray} (hl : H[l]? = some ⟨E, 1, xs.map am_⟩) : aA_ l (l + 1) H (.own l xs.length) (.list 0 1 (xs.map am_)) :=
 aA_.mkown (lo := l + 1) (hi := l + 1) (bt_.ofVals _ _ _ _ (by
  intro e he c hc
  obtain ⟨x, _, q⟩ := mem_map.1 he; subst q
  simp only [am_, mem_singleton] at hc
  exact ⟨_, hc⟩)) hl (by simp) (Nat.le_refl _) (Nat.lt_succ_self _) (Nat.le_refl _)
theorem ou_ (xs : List ByteArray) : ∀ e ∈ xs.map am_, e.all AV.cell = true := by
 intro e he
 obtain ⟨x, _, q⟩ := mem_map.1 he; subst q; rfl
def Cc_ : LC :=
 .seq (.ops [.s 2 (.mov (.const (.slice none 0 0)))]) (.seq (.ops [.s 3 (.buildSlice 9 1 (.string ⟨#[]⟩) 0 []), .m 4 0, .ap 5 9 1 16 3 4, .m 2 5]) .ret)
def wC_ : LF := ⟨1, 6, Cc_, [.tmp 2]⟩
theorem AI_ : at_ Tryz.prog Tryz.f169 wC_ := ai_
def c85 : LC :=
 .seq (.ops [.s 2 (.mov (.const (.slice none 0 0)))]) (.seq (.ops [.s 3 (.buildSlice 9 1 (.string ⟨#[]⟩) 0 []), .m 4 0, .ap 5 9 1 16 3 4, .m 2 5]) .ret)
def B9_ : LF := ⟨1, 6, c85, [.tmp 2]⟩
theorem DZ_ : at_ Tryz.prog Tryz.f85 B9_ := ai_
theorem hi_ (xs : List ByteArray) (hx : xs.length ≤ 1048576) : aP_ Tryz.prog 169 [.list 0 1 (xs.map am_)] (.list 0 1 (xs.map am_)) (fun a => ∃ l, a = .own l xs.length) := by
 refine bT_ mixed Tryz.func169 AI_ rfl (fun h0 => ?_)
 simp (disch := omega) only [wC_, Cc_, go_sem, Nat.reduceEqDiff, reduceCtorEq, ↓reduceIte]
 exact ⟨by omega, by omega, ou_ xs, ⟨aJ_.app _ _, (rB_ (by rw [cy_]; rfl)).widen (Nat.le_refl _) (by simp)⟩, _, rfl⟩
theorem d1_ (xs : List ByteArray) (hx : xs.length ≤ 1048576) : aP_ Tryz.prog 85 [.list 0 1 (xs.map am_)] (.list 0 1 (xs.map am_)) (fun a => ∃ l, a = .own l xs.length) := by
 refine bT_ mixed Tryz.func85 DZ_ rfl (fun h0 => ?_)
 simp (disch := omega) only [B9_, c85, go_sem, Nat.reduceEqDiff, reduceCtorEq, ↓reduceIte]
 exact ⟨by omega, by omega, ou_ xs, ⟨aJ_.app _ _, (rB_ (by rw [cy_]; rfl)).widen (Nat.le_refl _) (by simp)⟩, _, rfl⟩
def dQ_ (n : ByteArray) (s : List ByteArray) (a : ac_) : Bool := decide (a.Name = n) && cf_ (bss s) (bss a.Subs)
def cQ_ (n : ByteArray) (s : List ByteArray) : List ac_ → List ByteArray × Bool
 | [] => ([], false)
 | a :: r => if dQ_ n s a = true then (a.Subs, true) else cQ_ n s r
def c7_ (x : ad_) (n : ByteArray) (s : List ByteArray) : List ByteArray × Bool := if (aH_ x && cR_ n s) = true then cQ_ n s x.Nodes else ([], false)
abbrev jx_ (p : List ByteArray × Bool) : AV := .tup [.list 0 1 (p.1.map am_), .val (.bool p.2)]
def BR_ : LC :=
 .seq (.ops [.s 3 (.box 30 (.tmp 0)), .s 6 (.mov (.const (.slice none 0 0))), .s 7 (.mov (.const (.bool false)))]) (.seq (.seq (.ops [.ld 10 1 3, .c1 11 47 10, .nt 12 11, .m 13 12, .g 14 13 false (.mov (.tmp 1)), .g 15 13
 false (.mov (.tmp 2)), .g 16 13 false (.call 135 [.tmp 14, .tmp 15]), .g 17 13 false (.un .not (.tmp 16)), .pt 18 13 17]) (.cond (.tmp 18) (.seq (.ops [.s 6 (.mov (.const (.slice none 0 0))), .s 7 (.mov (.const (.bool
 false)))]) .ret) .skip)) (.seq (.seq (.ops [.fa 19 0 3, .ln 20 19, .ll 21 20, .ki 22 0]) (.block 0 (.loop (.seq (.ops [.bb 23 .lss false 22 21]) (.seq (.cond (.tmp 23) .skip (.exit 0)) (.seq (.block 1 (.seq (.ops [.ia 24
 3 20 22, .ld 25 3 24, .s 9 (.alloc 112 (.agg #[.string ⟨#[]⟩, .slice none 0 0, .string ⟨#[]⟩])), .st 3 9 25]) (.seq (.ops [.fa 26 0 9, .ln 27 26, .m 28 1, .bb 29 .eql false 27 28, .m 30 29, .g 31 30 true (.mov (.tmp 2)),
 .g 32 30 true (.fieldAddr 1 (.tmp 9)), .g 33 30 true (.load none (.tmp 32)), .g 34 30 true (.call 189 [.tmp 31, .tmp 33]), .pf 35 30 34]) (.cond (.tmp 35) (.seq (.ops [.fa 36 1 9, .ln 37 36, .c1 38 144 37, .m 6 38, .s 7
 (.mov (.const (.bool true)))]) .ret) .skip)))) (.ops [.bk 39 .add false 22 1, .m 22 39]))))))) (.seq (.ops [.s 6 (.mov (.const (.slice none 0 0))), .s 7 (.mov (.const (.bool false)))]) .ret)))
def wB_ : LF := ⟨3, 40, BR_, [.tmp 6, .tmp 7]⟩
theorem C2_ : at_ Tryz.prog Tryz.f152 wB_ := ai_
def BD_ : LC :=
 .seq (.ops [.s 3 (.box 30 (.tmp 0)), .s 6 (.mov (.const (.slice none 0 0))), .s 7 (.mov (.const (.bool false)))]) (.seq (.seq (.ops [.ld 9 1 3, .c1 10 41 9, .nt 11 10, .m 12 11, .g 13 12 false (.mov (.tmp 1)), .g 14 12
 false (.mov (.tmp 2)), .g 15 12 false (.call 118 [.tmp 13, .tmp 14]), .g 16 12 false (.un .not (.tmp 15)), .pt 17 12 16]) (.cond (.tmp 17) (.seq (.ops [.s 6 (.mov (.const (.slice none 0 0))), .s 7 (.mov (.const (.bool
 false)))]) .ret) .skip)) (.seq (.seq (.ops [.ki 8 0]) (.block 0 (.loop (.seq (.seq (.ops [.m 18 8, .fa 19 0 3, .ln 20 19, .ll 21 20, .bb 22 .lss false 18 21]) (.cond (.tmp 22) .skip (.exit 0))) (.seq (.block 1 (.seq
 (.ops [.fa 25 0 3, .ln 26 25, .m 27 8, .ia 28 3 26 27, .fa 29 0 28, .ln 30 29, .m 31 1, .bb 32 .eql false 30 31, .m 33 32, .g 34 33 true (.mov (.tmp 2)), .g 35 33 true (.fieldAddr 0 (.tmp 3)), .g 36 33 true (.load none
 (.tmp 35)), .g 37 33 true (.mov (.tmp 8)), .g 38 33 true (.indexAddr 3 (.tmp 36) (.tmp 37)), .g 39 33 true (.fieldAddr 1 (.tmp 38)), .g 40 33 true (.load none (.tmp 39)), .g 41 33 true (.call 119 [.tmp 34, .tmp 40]), .pf
 42 33 41]) (.cond (.tmp 42) (.seq (.ops [.fa 43 0 3, .ln 44 43, .m 45 8, .ia 46 3 44 45, .fa 47 1 46, .ln 48 47, .c1 49 169 48, .m 6 49, .s 7 (.mov (.const (.bool true)))]) .ret) .skip))) (.ops [.m 23 8, .bk 24 .add
 false 23 1, .m 8 24])))))) (.seq (.ops [.s 6 (.mov (.const (.slice none 0 0))), .s 7 (.mov (.const (.bool false)))]) .ret)))
def wm_ : LF := ⟨3, 50, BD_, [.tmp 6, .tmp 7]⟩
theorem Dt_ : at_ Tryz.prog Tryz.f131 wm_ := ai_
theorem kQ_ (x : ad_) (n : ByteArray) (s : List ByteArray) (hx : ad_.sz x ≤ 1048576) (hn : n.size ≤ 1048576) (hs : ao_ ByteArray.size s ≤ 1048576) : aP_ Tryz.prog 152 [.agg (ad_.cells x), .val (.string n), .list 0 1 (s.map am_)] (jx_ (c7_ x n s)) (fun a => ∃ b q, a = .tup [b, .val (.bool q)]) := by
 refine bT_ mixed Tryz.func152 C2_ rfl (fun h0 => ?_)
 have hz := ad_.sz_Nodes hx
 have hl := ax_ hz
 have hm : ∀ a ∈ x.Nodes, ac_.sz a ≤ 1048576 := fun a ha => b6_ hz ha
 have hok : ∀ H, aa_ Tryz.prog 47 [.agg [.list 0 3 (x.Nodes.map ac_.cells)]] H (.val (.bool (aH_ x))) := fun H => gN_ x hx H
 simp (disch := omega) only [wB_, BR_, ad_.cells, go_sem, Nat.reduceEqDiff, ↓reduceIte]
 refine aa_.call (hok _) ?_
 by_cases h1 : aH_ x = true
 case neg =>
  have h1' : aH_ x = false := by simpa using h1
  have hR : c7_ x n s = ([], false) := by simp [c7_, h1']
  simp (disch := omega) only [h1', ag_, go_sem, Nat.reduceEqDiff, ↓reduceIte]
  rw [hR]
  exact ⟨⟨aJ_.app _ _, aA_.pair (aA_.mknil _ _ _ 1) (by simp) _⟩, _, _, rfl⟩
 simp (disch := omega) only [h1, go_sem, Nat.reduceEqDiff, ↓reduceIte]
 refine aa_.call (e1_ _ _ hn (ax_ hs) _) ?_
 by_cases h2 : cR_ n s = true
 case neg =>
  have h2' : cR_ n s = false := by simpa using h2
  have hR : c7_ x n s = ([], false) := by simp [c7_, h2']
  simp (disch := omega) only [h2', ag_, go_sem, Nat.reduceEqDiff, ↓reduceIte]
  rw [hR]
  exact ⟨⟨aJ_.app _ _, aA_.pair (aA_.mknil _ _ _ 1) (by simp) _⟩, _, _, rfl⟩
 have hR : c7_ x n s = cQ_ n s x.Nodes := by simp [c7_, h1, h2]
 rw [hR]
 simp (disch := omega) only [h2, ag_, go_sem, Nat.reduceEqDiff, ↓reduceIte]
 refine aL_ (fun m t h => ∃ k : Nat, t 3 = .ptr h0.length 1 0 0 ∧ t 1 = .val (.string n) ∧ t 2 = .list 0 1 (s.map am_) ∧ t 20 = .list 0 3 (x.Nodes.map ac_.cells) ∧ t 21 = .val (.int .i64 x.Nodes.length) ∧ t 22 = .val (.int .i64 k) ∧ aJ_ h0 h ∧ h[h0.length]? = some ⟨30, 1, [[.list 0 3 (x.Nodes.map ac_.cells)]]⟩ ∧ m = x.Nodes.length - k ∧ k ≤ x.Nodes.length ∧ cQ_ n s x.Nodes = cQ_ n s (x.Nodes.drop k)) x.Nodes.length ⟨0, rfl, rfl, rfl, rfl, rfl, rfl, aJ_.app _ _, by rw [cy_]; rfl, rfl, Nat.zero_le _, rfl⟩ ?_
 rintro J hJ m t h ⟨k, t3, t1, t2, t20, t21, t22, hM, o0, rfl, hk, hS⟩
 have w0 := fun l => a1_ (l := l) o0
 have ml := hM.len
 by_cases hlt : k < x.Nodes.length
 ·have hb := hm _ (getElem_mem hlt)
  rw [drop_eq_getElem_cons hlt, cQ_] at hS
  have hnx : dQ_ n s x.Nodes[k] = false → ∀ (t' : Nat → AV) (h' : List Row), t' 3 = t 3 → t' 1 = t 1 → t' 2 = t 2 → t' 20 = t 20 → t' 21 = t 21 → t' 22 = .val (.int .i64 (k + 1 : Nat)) → aJ_ h0 h' → h'[h0.length]? = h[h0.length]? → ∃ m, m < x.Nodes.length - k ∧ J m t' h' :=
   fun q t' h' e3 e1 e2 e20 e21 e22 em e0 => ⟨x.Nodes.length - (k + 1), by omega, hJ _ _ _ ⟨k + 1, e3.trans t3, e1.trans t1, e2.trans t2, e20.trans t20, e21.trans t21, e22, em, e0.trans o0, rfl, by omega, by rw [hS, q]; rfl⟩⟩
  by_cases e : x.Nodes[k].Name = n
  case neg =>
   have e' : (x.Nodes[k].Name = n) = False := eq_false e
   simp (disch := omega) only [t1, t20, t21, t22, e', hlt, ac_.cells, ag_, go_sem, Nat.reduceEqDiff, Nat.reduceAdd, ↓reduceIte]
   exact hnx (by simp [dQ_, e]) _ _ (by simp [upd]) (by simp [upd]) (by simp [upd]) (by simp [upd]) (by simp [upd]) (by simp [upd]) (by first | exact hM | exact hM.add _) (by first | rfl | (rw [w0, o0]))
  have e' : (x.Nodes[k].Name = n) = True := eq_true e
  simp (disch := omega) only [t1, t2, t20, t21, t22, e', hlt, ac_.cells, ag_, go_sem, Nat.reduceEqDiff, Nat.reduceAdd, ↓reduceIte]
  refine aa_.call (kp_ _ _ hs (ac_.sz_Subs hb) _) ?_
  cases q : cf_ (bss s) (bss x.Nodes[k].Subs)
  ·simp (disch := omega) only [t22, ag_, go_sem, Nat.reduceEqDiff, ↓reduceIte]
   exact hnx (by simp [dQ_, q]) _ _ (by simp [upd]) (by simp [upd]) (by simp [upd]) (by simp [upd]) (by simp [upd]) (by simp [upd]) (by first | exact hM | exact hM.add _) (by first | rfl | (rw [w0, o0]))
  ·have hq : dQ_ n s x.Nodes[k] = true := by simp [dQ_, e, q]
   rw [if_pos hq] at hS
   rw [hS]
   simp (disch := omega) only [t22, ag_, go_sem, Nat.reduceEqDiff, ↓reduceIte]
   refine bJ_ (b1_ x.Nodes[k].Subs (ax_ (ac_.sz_Subs hb))) (fun av H1 m1 F1 q1 => ?_)
   obtain ⟨l, rfl⟩ := q1
   simp (disch := omega) only [go_sem, Nat.reduceEqDiff, ↓reduceIte]
   have m2 := (hM.add _).trans m1
   have l1 := m1.len
   exact ⟨⟨m2, aA_.pair (F1.tree.widen (by first | omega | (simp; omega) | (simp; done)) (Nat.le_refl _)) (by have := m2.len; omega) _⟩, _, _, rfl⟩
 ·rw [drop_eq_nil_of_le (by omega), cQ_] at hS
  rw [hS]
  simp (disch := omega) only [t1, t20, t21, t22, hlt, ag_, go_sem, Nat.reduceEqDiff, Nat.reduceAdd, ↓reduceIte]
  exact ⟨⟨hM, aA_.pair (aA_.mknil _ _ _ 1) (by omega) _⟩, _, _, rfl⟩
theorem k8_ (x : ad_) (n : ByteArray) (s : List ByteArray) (hx : ad_.sz x ≤ 1048576) (hn : n.size ≤ 1048576) (hs : ao_ ByteArray.size s ≤ 1048576) : aP_ Tryz.prog 131 [.agg (ad_.cells x), .val (.string n), .list 0 1 (s.map am_)] (jx_ (c7_ x n s)) (fun a => ∃ b q, a = .tup [b, .val (.bool q)]) := by
 refine bT_ mixed Tryz.func131 Dt_ rfl (fun h0 => ?_)
 have hz := ad_.sz_Nodes hx
 have hl := ax_ hz
 have hm : ∀ a ∈ x.Nodes, ac_.sz a ≤ 1048576 := fun a ha => b6_ hz ha
 have hok : ∀ H, aa_ Tryz.prog 41 [.agg [.list 0 3 (x.Nodes.map ac_.cells)]] H (.val (.bool (aH_ x))) := fun H => cL_ x hx H
 simp (disch := omega) only [wm_, BD_, ad_.cells, go_sem, Nat.reduceEqDiff, ↓reduceIte]
 refine aa_.call (hok _) ?_
 by_cases h1 : aH_ x = true
 case neg =>
  have h1' : aH_ x = false := by simpa using h1
  have hR : c7_ x n s = ([], false) := by simp [c7_, h1']
  simp (disch := omega) only [h1', ag_, go_sem, Nat.reduceEqDiff, ↓reduceIte]
  rw [hR]
  exact ⟨⟨aJ_.app _ _, aA_.pair (aA_.mknil _ _ _ 1) (by simp) _⟩, _, _, rfl⟩
 simp (disch := omega) only [h1, go_sem, Nat.reduceEqDiff, ↓reduceIte]
 refine aa_.call (cv_ _ _ hn (ax_ hs) _) ?_
 by_cases h2 : cR_ n s = true
 case neg =>
  have h2' : cR_ n s = false := by simpa using h2
  have hR : c7_ x n s = ([], false) := by simp [c7_, h2']
  simp (disch := omega) only [h2', ag_, go_sem, Nat.reduceEqDiff, ↓reduceIte]
  rw [hR]
  exact ⟨⟨aJ_.app _ _, aA_.pair (aA_.mknil _ _ _ 1) (by simp) _⟩, _, _, rfl⟩
 have hR : c7_ x n s = cQ_ n s x.Nodes := by simp [c7_, h1, h2]
 rw [hR]
 simp (disch := omega) only [h2, ag_, go_sem, Nat.reduceEqDiff, ↓reduceIte]
 refine aL_ (fun m t h => ∃ k : Nat, t 3 = .ptr h0.length 1 0 0 ∧ t 1 = .val (.string n) ∧ t 2 = .list 0 1 (s.map am_) ∧ t 8 = .val (.int .i64 k) ∧ aJ_ h0 h ∧ h[h0.length]? = some ⟨30, 1, [[.list 0 3 (x.Nodes.map ac_.cells)]]⟩ ∧ m = x.Nodes.length - k ∧ k ≤ x.Nodes.length ∧ cQ_ n s x.Nodes = cQ_ n s (x.Nodes.drop k)) x.Nodes.length ⟨0, rfl, rfl, rfl, rfl, aJ_.app _ _, by rw [cy_]; rfl, rfl, Nat.zero_le _, rfl⟩ ?_
 rintro J hJ m t h ⟨k, t3, t1, t2, t8, hM, o0, rfl, hk, hS⟩
 have w0 := fun l => a1_ (l := l) o0
 have ml := hM.len
 by_cases hlt : k < x.Nodes.length
 ·have hb := hm _ (getElem_mem hlt)
  rw [drop_eq_getElem_cons hlt, cQ_] at hS
  have hnx : dQ_ n s x.Nodes[k] = false → ∀ (t' : Nat → AV) (h' : List Row), t' 3 = t 3 → t' 1 = t 1 → t' 2 = t 2 → t' 8 = .val (.int .i64 (k + 1 : Nat)) → aJ_ h0 h' → h'[h0.length]? = h[h0.length]? → ∃ m, m < x.Nodes.length - k ∧ J m t' h' :=
   fun q t' h' e3 e1 e2 e8 em e0 => ⟨x.Nodes.length - (k + 1), by omega, hJ _ _ _ ⟨k + 1, e3.trans t3, e1.trans t1, e2.trans t2, e8, em, e0.trans o0, rfl, by omega, by rw [hS, q]; rfl⟩⟩
  by_cases e : x.Nodes[k].Name = n
  case neg =>
   have e' : (x.Nodes[k].Name = n) = False := eq_false e
   simp (disch := omega) only [t3, t1, t8, o0, e', hlt, ac_.cells, ag_, go_sem, Nat.reduceEqDiff, Nat.reduceAdd, Nat.reduceLeDiff, ↓reduceIte]
   exact hnx (by simp [dQ_, e]) _ _ (by simp [upd]) (by simp [upd]) (by simp [upd]) (by simp [upd]) (by first | exact hM | exact hM.add _) (by first | rfl | (rw [w0, o0]))
  have e' : (x.Nodes[k].Name = n) = True := eq_true e
  simp (disch := omega) only [t3, t1, t2, t8, o0, e', hlt, ac_.cells, ag_, go_sem, Nat.reduceEqDiff, Nat.reduceAdd, Nat.reduceLeDiff, ↓reduceIte]
  refine aa_.call (ha_ _ _ hs (ac_.sz_Subs hb) _) ?_
  cases q : cf_ (bss s) (bss x.Nodes[k].Subs)
  ·simp (disch := omega) only [t3, t8, o0, ac_.cells, ag_, go_sem, Nat.reduceEqDiff, Nat.reduceAdd, Nat.reduceLeDiff, ↓reduceIte]
   exact hnx (by simp [dQ_, q]) _ _ (by simp [upd]) (by simp [upd]) (by simp [upd]) (by simp [upd]) (by first | exact hM | exact hM.add _) (by first | rfl | (rw [w0, o0]))
  ·have hq : dQ_ n s x.Nodes[k] = true := by simp [dQ_, e, q]
   rw [if_pos hq] at hS
   rw [hS]
   simp (disch := omega) only [t3, t8, o0, ac_.cells, ag_, go_sem, Nat.reduceEqDiff, Nat.reduceAdd, Nat.reduceLeDiff, ↓reduceIte]
   refine bJ_ (hi_ x.Nodes[k].Subs (ax_ (ac_.sz_Subs hb))) (fun av H1 m1 F1 q1 => ?_)
   obtain ⟨l, rfl⟩ := q1
   simp (disch := omega) only [go_sem, Nat.reduceEqDiff, ↓reduceIte]
   have m2 := hM.trans m1
   have l1 := m1.len
   exact ⟨⟨m2, aA_.pair (F1.tree.widen (by first | omega | (simp; omega) | (simp; done)) (Nat.le_refl _)) (by have := m2.len; omega) _⟩, _, _, rfl⟩
 ·rw [drop_eq_nil_of_le (by omega), cQ_] at hS
  rw [hS]
  simp (disch := omega) only [t3, t1, t8, o0, hlt, ag_, go_sem, Nat.reduceEqDiff, ↓reduceIte]
  exact ⟨⟨hM, aA_.pair (aA_.mknil _ _ _ 1) (by omega) _⟩, _, _, rfl⟩
def mZ_ (P : Program) (f : FuncId) (args : List AV) (h : List Row) (r : AV) : Prop := ∀ K : AV → List Row → Prop, (∀ H', aJ_ h H' → K r H') → callSem P f args h K
theorem aa_.quiet {P : Program} {f : FuncId} {args : List AV} {h : List Row} {r : AV} (hc : aa_ P f args h r) : mZ_ P f args h r := fun K hk => hc K (hk h (aJ_.refl h))
theorem lG_ {α : Type} {ts : List α} {k m : Nat} (h1 : k < m) (h2 : k < ts.length) : ts[k] ∈ ts.take m := by
 have h3 : k < (ts.take m).length := by rw [length_take]; omega
 have e : (ts.take m)[k] = ts[k] := getElem_take
 rw [← e]; exact getElem_mem h3
def cT_ (ns : List ac_) (n : ByteArray) (s : List ByteArray) : List ac_ := ns.filter fun a => !inN n s a
theorem sM_ {ns : List ac_} {n : ByteArray} {s : List ByteArray} {k : Nat} (hlt : k < ns.length) (h : inN n s ns[k] = false) : cT_ (ns.take (k + 1)) n s = cT_ (ns.take k) n s ++ [ns[k]] := by
 unfold cT_; rw [take_succ_eq_append_getElem hlt, filter_append]; simp [h]
theorem sm_ {ns : List ac_} {n : ByteArray} {s : List ByteArray} {k : Nat} (hlt : k < ns.length) (h : inN n s ns[k] = true) : cT_ (ns.take (k + 1)) n s = cT_ (ns.take k) n s := by
 unfold cT_; rw [take_succ_eq_append_getElem hlt, filter_append]; simp [h]
theorem tK_ (ns : List ac_) (n : ByteArray) (s : List ByteArray) (k : Nat) : (cT_ (ns.take k) n s).length ≤ k := by
 unfold cT_
 exact Nat.le_trans (length_filter_le _ _) (by simp; omega)
theorem kV_ {α : Type} (f : α → Nat) (p : α → Bool) : ∀ xs : List α, bZ_ f (xs.filter p) ≤ bZ_ f xs
 | [] => Nat.le_refl _
 | x :: xs => by
  have ih := kV_ f p xs
  by_cases h : p x = true
  ·rw [filter_cons_of_pos h]; simp only [bZ_]; omega
  ·rw [filter_cons_of_neg h]; simp only [bZ_]; omega
theorem ux_ (x : ad_) (n : ByteArray) (s : List ByteArray) : ad_.sz ⟨cT_ x.Nodes n s⟩ ≤ ad_.sz x := by
 have h1 := kV_ ac_.sz (fun a => !inN n s a) x.Nodes
 have h2 := length_filter_le (fun a => !inN n s a) x.Nodes
 have e : ∀ y : ad_, ad_.sz y = ao_ ac_.sz y.Nodes := fun _ => rfl
 simp only [e, ao_, cT_]
 omega
theorem n9_ (ns : List ac_) : ∀ e ∈ ns.map ac_.cells, e.all AV.flat = true := by
 intro e he
 obtain ⟨x, _, q⟩ := mem_map.1 he; subst q; rfl
def Dr_ : LC :=
 .seq (.ops [.s 2 (.mov (.const (.slice none 0 0)))]) (.seq (.ops [.s 5 (.buildSlice 112 3 (.agg #[.string ⟨#[]⟩, .slice none 0 0, .string ⟨#[]⟩]) 0 []), .m 3 5]) (.seq (.seq (.ops [.ki 4 0]) (.block 0 (.loop (.seq (.seq
 (.ops [.m 6 4, .m 7 0, .ll 8 7, .bb 9 .lss false 6 8]) (.cond (.tmp 9) .skip (.exit 0))) (.seq (.block 1 (.gops [.m 12 3, .m 13 0, .m 14 4, .ia 15 3 13 14, .fa 16 0 15, .ln 17 16, .m 18 0, .m 19 4, .ia 20 3 18 19, .fa 21
 1 20, .ln 22 21, .m 24 0, .m 25 4, .ia 26 3 24 25, .fa 27 2 26, .ln 28 27] [(.c1 23 169 22, [.m 12 3, .m 13 0, .m 14 4, .ia 15 3 13 14, .fa 16 0 15, .ln 17 16, .m 24 0, .m 25 4, .ia 26 3 24 25, .fa 27 2 26, .ln 28 27]),
 (.s 29 (.build (.agg #[.string ⟨#[]⟩, .slice none 0 0, .string ⟨#[]⟩]) [(0, 1), (1, 1), (2, 1)] [(0, .tmp 17), (1, .tmp 23), (2, .tmp 28)]), [.m 12 3]), (.s 30 (.buildSlice 112 3 (.agg #[.string ⟨#[]⟩, .slice none 0 0,
 .string ⟨#[]⟩]) 1 [(0, .tmp 29)]), [.m 12 3]), (.ap 31 112 3 56 12 30, []), (.m 3 31, [])])) (.ops [.m 10 4, .bk 11 .add false 10 1, .m 4 11])))))) (.seq (.ops [.m 32 3, .m 2 32]) .ret)))
def xE_ : LF := ⟨1, 33, Dr_, [.tmp 2]⟩
theorem Dc_ : at_ Tryz.prog Tryz.f157 xE_ := ai_
theorem hv_ (ns : List ac_) (hn : ao_ ac_.sz ns ≤ 1048576) : aP_ Tryz.prog 157 [.list 0 3 (ns.map ac_.cells)] (.list 0 3 (ns.map ac_.cells)) (fun a => ∃ l, a = .own l ns.length) := by
 refine bT_ mixed Tryz.func157 Dc_ rfl (fun h0 => ?_)
 have hl := ax_ hn
 have hm : ∀ e ∈ ns, ac_.sz e ≤ 1048576 := fun e he => b6_ hn he
 simp (disch := omega) only [xE_, Dr_, go_sem, ↓reduceIte]
 refine aL_ (fun n t h => ∃ (k : Nat) (done : List (List AV)), t 0 = .list 0 3 (ns.map ac_.cells) ∧ t 3 = .own h0.length k ∧ t 4 = .val (.int .i64 k) ∧ aJ_ h0 h ∧ cM_ h0.length h 112 3 done ((ns.take k).map ac_.cells) ∧ done.length = k ∧ n = ns.length - k ∧ k ≤ ns.length) ns.length ?_ ?_
 ·exact ⟨0, [], rfl, rfl, rfl, aJ_.app _ _, cM_.zero (by rw [cy_]; rfl), rfl, rfl, Nat.zero_le _⟩
 rintro J hJ n t h ⟨k, done, t0, t3, t4, hM, hG, hd, rfl, hk⟩
 have o3 := hG.row
 have ml := hM.len
 have gl := hG.lt
 by_cases hlt : k < ns.length
 ·have hsl := ax_ (ac_.sz_Subs (hm _ (getElem_mem hlt)))
  simp (disch := (first | omega | (simp only [ls_, la_, lc_, ln_]; first | done | omega))) only [go_sem, Nat.reduceEqDiff, Nat.reduceAdd, Nat.reduceLeDiff, reduceCtorEq, ↓reduceIte, t0, t3, t4, hlt, ac_.cells]
  refine bJ_ (hi_ ns[k].Subs hsl) (fun av H1 m1 F1 q1 => ?_)
  obtain ⟨l, rfl⟩ := q1
  have p3 := m1.at o3
  have l1 := m1.len
  simp (disch := (first | omega | (simp only [ls_, la_, lc_, ln_]; first | done | omega))) only [aw_, aQ_, go_sem, Nat.reduceEqDiff, Nat.reduceAdd, Nat.reduceLeDiff, reduceCtorEq, ↓reduceIte, t0, t3, t4, p3, hd, ac_.cells, bH_, Option.map_some]
  repeat (refine And.intro (by first | omega | (exact strs_cellv _) | assumption | (simp; done)) ?_)
  refine ⟨ns.length - (k + 1), by omega, hJ _ _ _ ⟨k + 1, done ++ [[.val (.string ns[k].Name), .own l ns[k].Subs.length, .val (.string ns[k].Value)]], by simp [upd, t0], by simp [upd], by simp [upd], ((hM.trans m1).add _).set (by omega), ?_, by simp [hd], rfl, by omega⟩⟩
  rw [take_succ_eq_append_getElem hlt, map_append]
  refine hG.step (H1 := H1) (ap_.val _ (ap_.cons F1.tree (ap_.val _ (ap_.nil _ _ _)) ⟨l1, Nat.le_refl _⟩)) l1 (fun y q1 q2 => m1.kept y q2) (by simp) (fun y q1 q2 => by (repeat (first | rw [ar_ (by omega)] | rw [aw_ (by first | omega | (simp only [ls_, la_, lc_, ln_]; omega))]))) ?_
  exact aD_ (by simp; omega)
 ·simp (disch := (first | omega | (simp only [ls_, la_, lc_, ln_]; first | done | omega))) only [go_sem, Nat.reduceEqDiff, reduceCtorEq, ↓reduceIte, t0, t3, t4, hlt]
  have e : k = ns.length := by omega
  subst e
  rw [take_length] at hG
  exact ⟨⟨hM, hG.done hd⟩, _, rfl⟩
def zZ_ : LC :=
 .seq (.ops [.s 3 (.box 30 (.tmp 0)), .s 6 (.alloc 30 (.agg #[.slice none 0 0]))]) (.seq (.ops [.s 9 (.buildSlice 112 3 (.agg #[.string ⟨#[]⟩, .slice none 0 0, .string ⟨#[]⟩]) 0 []), .m 7 9]) (.seq (.seq (.ops [.ki 8 0])
 (.block 0 (.loop (.seq (.seq (.ops [.m 10 8, .fa 11 0 3, .ln 12 11, .ll 13 12, .bb 14 .lss false 10 13]) (.cond (.tmp 14) .skip (.exit 0))) (.seq (.block 1 (.seq (.ops [.fa 17 0 3, .ln 18 17, .m 19 8, .ia 20 3 18 19, .ld
 21 3 20, .m 22 1, .m 23 2, .c3 24 198 21 22 23, .nt 25 24]) (.cond (.tmp 25) (.ops [.m 26 7, .fa 27 0 3, .ln 28 27, .m 29 8, .ia 30 3 28 29, .ld 31 3 30, .s 32 (.buildSlice 112 3 (.agg #[.string ⟨#[]⟩, .slice none 0 0,
 .string ⟨#[]⟩]) 1 [(0, .tmp 31)]), .ap 33 112 3 56 26 32, .m 7 33]) .skip))) (.ops [.m 15 8, .bk 16 .add false 15 1, .m 8 16])))))) (.seq (.ops [.m 34 7, .c1 35 157 34, .s 36 (.build (.agg #[.slice none 0 0]) [(0, 1)]
 [(0, .tmp 35)]), .st 1 6 36]) .ret)))
def xP_ : LF := ⟨3, 37, zZ_, [.cell 6 (some 1)]⟩
theorem B0_ : at_ Tryz.prog Tryz.f202 xP_ := ai_
theorem kN_ (x : ad_) (n : ByteArray) (s : List ByteArray) (hx : ad_.sz x ≤ 1048576) : aP_ Tryz.prog 202 [.agg (ad_.cells x), .val (.string n), .list 0 1 (s.map am_)] (.agg (ad_.cells ⟨cT_ x.Nodes n s⟩)) (fun a => ∃ l, a = .agg [.own l (cT_ x.Nodes n s).length]) := by
 refine bT_ mixed Tryz.func202 B0_ rfl (fun h0 => ?_)
 have hs := ad_.sz_Nodes hx
 have hl := ax_ hs
 have hm : ∀ e ∈ x.Nodes, ac_.sz e ≤ 1048576 := fun e he => b6_ hs he
 have hin : ∀ a : ac_, ac_.sz a ≤ 1048576 → ∀ H, aa_ Tryz.prog 198 [.agg [.val (.string a.Name), .list 0 1 (a.Subs.map am_), .val (.string a.Value)], .val (.string n), .list 0 1 (s.map am_)] H (.val (.bool (inN n s a))) := fun a ha H => ka_ a n s ha H
 simp (disch := omega) only [xP_, zZ_, ad_.cells, go_sem, Nat.reduceAdd, ↓reduceIte]
 refine aL_ (fun N t h => ∃ (k : Nat), t 1 = .val (.string n) ∧ t 2 = .list 0 1 (s.map am_) ∧ t 3 = .ptr h0.length 1 0 0 ∧ t 6 = .ptr (h0.length + 1) 1 0 0 ∧ t 7 = .own (h0.length + 2) (cT_ (x.Nodes.take k) n s).length ∧ t 8 = .val (.int .i64 k) ∧ aJ_ h0 h ∧
  h[h0.length]? = some ⟨30, 1, [[.list 0 3 (x.Nodes.map ac_.cells)]]⟩ ∧ h[h0.length + 1]? = some ⟨30, 1, [[.val (.slice none 0 0)]]⟩ ∧ h[h0.length + 2]? = some ⟨112, 3, (cT_ (x.Nodes.take k) n s).map ac_.cells⟩ ∧ N = x.Nodes.length - k ∧ k ≤ x.Nodes.length) x.Nodes.length ?_ ?_
 ·exact ⟨0, rfl, rfl, rfl, rfl, rfl, rfl, aJ_.app _ _, by rw [cy_]; rfl, by rw [b8_]; rfl, by rw [b8_]; rfl, rfl, Nat.zero_le _⟩
 rintro J hJ N t h ⟨k, t1, t2, t3, t6, t7, t8, hM, o0, o1, o2, rfl, hk⟩
 have ml := hM.len
 have g2 := (List.getElem?_eq_some_iff.1 o2).1
 have hkl := tK_ x.Nodes n s k
 by_cases hlt : k < x.Nodes.length
 ·simp (disch := (first | omega | (simp only [ls_, la_, lc_, ln_]; first | done | omega))) only [go_sem, Nat.reduceEqDiff, Nat.reduceAdd, ↓reduceIte, t1, t2, t3, t8, o0, hlt, ac_.cells]
  refine aa_.call (hin x.Nodes[k] (hm _ (getElem_mem hlt)) _) ?_
  cases q : inN n s x.Nodes[k]
  ·simp (disch := (first | omega | (simp only [ls_, la_, lc_, ln_]; first | done | omega))) only [aw_, aQ_, go_sem, Nat.reduceEqDiff, Nat.reduceAdd, Nat.reduceLeDiff, ↓reduceIte, t3, t7, t8, o0, o2, ac_.cells]
   repeat (refine And.intro (by first | omega | (exact strs_cellv _) | assumption | (simp; done)) ?_)
   have e1 := sM_ hlt q
   refine ⟨x.Nodes.length - (k + 1), by omega, hJ _ _ _ ⟨k + 1, by simp [upd, t1], by simp [upd, t2], by simp [upd, t3], by simp [upd, t6], by rw [e1]; simp [upd], by simp [upd], (hM.add _).set (by omega), ?_, ?_, ?_, rfl, by omega⟩⟩
   ·(repeat (first | rw [ar_ (by omega)] | rw [aw_ (by first | omega | (simp only [ls_, la_, lc_, ln_]; omega))])); exact o0
   ·(repeat (first | rw [ar_ (by omega)] | rw [aw_ (by first | omega | (simp only [ls_, la_, lc_, ln_]; omega))])); exact o1
   ·rw [e1, map_append]; exact aD_ (by simp; omega)
  ·simp (disch := (first | omega | (simp only [ls_, la_, lc_, ln_]; first | done | omega))) only [go_sem, Nat.reduceEqDiff, ↓reduceIte, t8]
   have e1 := sm_ hlt q
   exact ⟨x.Nodes.length - (k + 1), by omega, hJ _ _ _ ⟨k + 1, by simp [upd, t1], by simp [upd, t2], by simp [upd, t3], by simp [upd, t6], by rw [e1]; simp [upd, t7], by simp [upd], hM, o0, o1, by rw [e1]; exact o2, rfl, by omega⟩⟩
 ·have e : k = x.Nodes.length := by omega
  subst e
  rw [take_length] at t7 o2
  simp (disch := (first | omega | (simp only [ls_, la_, lc_, ln_]; first | done | omega))) only [go_sem, Nat.reduceEqDiff, ↓reduceIte, t3, t7, t8, o0, hlt]
  have hz : ao_ ac_.sz (cT_ x.Nodes n s) ≤ 1048576 := Nat.le_trans (ux_ x n s) hx
  refine d0_ (hv_ (cT_ x.Nodes n s) hz) (a3_.cons (bL_.res (n := 3) (lh_ o2 (by simp) (n9_ _))) a3_.nil) (fun av H1 m1 F1 q1 => ?_)
  obtain ⟨l, rfl⟩ := q1
  have p1 := m1.at o1
  have l1 := m1.len
  simp (disch := (first | omega | (simp only [ls_, la_, lc_, ln_]; first | done | omega))) only [aD_, go_sem, Nat.reduceEqDiff, ↓reduceIte, t6, p1, bH_, Option.map_some]
  refine ⟨⟨(hM.trans m1).set (by omega), ?_⟩, _, rfl⟩
  exact (aA_.agg (ap_.cons (F1.tree.keep fun y r1 r2 => by (repeat (first | rw [ar_ (by omega)] | rw [aw_ (by first | omega | (simp only [ls_, la_, lc_, ln_]; omega))]))) (ap_.nil _ _ _) ⟨l1, Nat.le_refl _⟩)).widen (by omega) (by simp)
theorem BO_ {h0 hn : List Row} {x1 x2 y1 y2 : Row} {l : Nat} (h : (h0 ++ [y1, y2]).length ≤ l) : (h0 ++ x1 :: x2 :: hn)[l]? = ((h0 ++ [y1, y2]) ++ hn)[l]? := by
 simp only [la_, lc_, ln_] at h
 rw [append_assoc, getElem?_append_right (by omega), getElem?_append_right (by omega)]
 obtain ⟨m, hm⟩ : ∃ m, l - h0.length = m + 2 := ⟨l - h0.length - 2, by omega⟩
 rw [hm]; rfl
theorem sA_ {h0 hn : List Row} {x1 x2 y1 y2 : Row} {n v : ByteArray} {s : List ByteArray} {l : Nat} (hf : em_ (h0 ++ [y1, y2]).length ((h0 ++ [y1, y2]) ++ hn) (.own l s.length) (.list 0 1 (s.map am_))) :
 em_ h0.length (h0 ++ x1 :: x2 :: hn) (.agg [.val (.string n), .own l s.length, .val (.string v)]) (.agg (ac_.cells ⟨n, s, v⟩)) := by
 have hb := (hf.b.keep (H' := h0 ++ x1 :: x2 :: hn) fun l q1 q2 => BO_ q1).widen (lo' := h0.length) (hi' := (h0 ++ x1 :: x2 :: hn).length) (by simp) (by simp)
 exact (aA_.agg (ap_.val _ (ap_.cons hb (ap_.val _ (ap_.nil _ _ _)) ⟨by simp, Nat.le_refl _⟩))).fresh
def gU_ (P : Program) (f : FuncId) (args : List AV) (r : AV) (Q : AV → List Row → Prop) : Prop :=
 ∀ (h : List Row) (K : AV → List Row → Prop), (∀ av H', aJ_ h H' → FB h.length H'.length H' av r → Q av H' → K av H') → callSem P f args h K
theorem tB_ {P : Program} {f : FuncId} {fn : Func} {lf : LF} {args : List AV} {r : AV} {Q : AV → List Row → Prop} (hmx : P.follows .mixedOrders = true) (hf : P.funcs[f]? = some fn) (hl : at_ P fn lf) (hn : args.length = lf.np)
 (hw : ∀ h : List Row, Ex P lf.N (cH_ lf.res fun av h' => Res h h' av r ∧ Q av h') lf.body [] (fW_ args) h) : gU_ P f args r Q := by
 intro h K hk
 refine (bd_ hmx hf hl (cb_ hn (hw h))).mono ?_
 rintro a h' ⟨⟨m, h1⟩, h2⟩
 exact hk a h' m ⟨h1, Nat.le_refl _⟩ h2
theorem gU_.call {P : Program} {f : FuncId} {args : List AV} {r : AV} {Q : AV → List Row → Prop} {Q' : AV → Prop} (hc : gU_ P f args r Q) (hq : ∀ a H, Q a H → Q' a) : aP_ P f args r Q' := by
 intro h K hk
 refine hc h K fun av H' m F q => ?_
 obtain ⟨hn, rfl⟩ := m.tail
 exact hk av hn F.tree.fresh (hq _ _ q)
abbrev ul_ (x : ac_) (a : AV) : Prop := ∃ l, a = .agg [.val (.string x.Name), .own l x.Subs.length, .val (.string x.Value)]
def c93 : LC :=
 .seq (.ops [.s 1 (.box 112 (.tmp 0)), .s 2 (.alloc 112 (.agg #[.string ⟨#[]⟩, .slice none 0 0, .string ⟨#[]⟩]))]) (.seq (.ops [.fa 3 1 1, .ln 4 3, .c1 5 144 4, .fa 6 1 1, .st 1 6 5]) (.seq (.ops [.ld 7 3 1, .st 3 2 7])
 .ret))
def Dq_ : LF := ⟨1, 8, c93, [.cell 2 (some 3)]⟩
theorem DM_ : at_ Tryz.prog Tryz.f93 Dq_ := ai_
theorem kh_ (x : ac_) (hx : ac_.sz x ≤ 1048576) : aP_ Tryz.prog 93 [.agg (ac_.cells x)] (.agg (ac_.cells x)) (ul_ x) := by
 refine da_ mixed Tryz.func93 DM_ rfl (fun h0 => ?_)
 have h2 := ax_ (ac_.sz_Subs hx)
 simp (disch := omega) only [Dq_, c93, ac_.cells, go_sem, Nat.reduceEqDiff, Nat.reduceAdd, ↓reduceIte]
 refine b1_ x.Subs h2 _ _ (fun av hn hf hq => ?_)
 obtain ⟨l, rfl⟩ := hq
 simp (disch := omega) only [cC_, append_assoc, go_sem, Nat.reduceEqDiff, Nat.reduceAdd, Nat.reduceLeDiff, ↓reduceIte]
 exact ⟨_, rfl, sA_ hf, _, rfl⟩
def c49 : LC :=
 .seq (.ops [.s 1 (.box 30 (.tmp 0)), .s 2 (.alloc 30 (.agg #[.slice none 0 0]))]) (.seq (.ops [.s 6 (.build (.agg #[.slice none 0 0]) [(0, 1)] []), .s 3 (.alloc 30 (.agg #[.slice none 0 0])), .st 1 3 6]) (.seq (.seq
 (.ops [.fa 7 0 1, .ln 8 7, .ll 9 8, .ki 10 0]) (.block 0 (.ghost (.loop (.seq (.ops [.bb 11 .lss false 10 9]) (.seq (.cond (.tmp 11) .skip (.exit 0)) (.seq (.block 1 (.seq (.ops [.ia 12 3 8 10, .ld 13 3 12, .s 5 (.alloc
 112 (.agg #[.string ⟨#[]⟩, .slice none 0 0, .string ⟨#[]⟩])), .st 3 5 13]) (.gops [.fa 14 0 3, .ln 15 14, .ld 16 3 5] [(.c1 17 93 16, [.fa 14 0 3, .ln 15 14]), (.s 18 (.buildSlice 112 3 (.agg #[.string ⟨#[]⟩, .slice none
 0 0, .string ⟨#[]⟩]) 1 [(0, .tmp 17)]), [.fa 14 0 3, .ln 15 14]), (.ap 19 112 3 56 15 18, []), (.fa 20 0 3, []), (.st 1 20 19, [])]))) (.ops [.bk 21 .add false 10 1, .m 10 21])))))))) (.seq (.ops [.ld 22 1 3, .st 1 2
 22]) .ret)))
def zD_ : LF := ⟨1, 23, c49, [.cell 2 (some 1)]⟩
theorem En_ : at_ Tryz.prog Tryz.f49 zD_ := ai_
theorem hx_ (x : ad_) (hx : ad_.sz x ≤ 1048576) : gU_ Tryz.prog 49 [.agg (ad_.cells x)] (.agg (ad_.cells x)) (fun a H => ∃ l, a = .agg [.own l x.Nodes.length] ∧ ∃ es, H[l]? = some ⟨112, 3, es⟩) := by
 refine tB_ mixed Tryz.func49 En_ rfl (fun h0 => ?_)
 have hs := ad_.sz_Nodes hx
 have hl := ax_ hs
 have hm : ∀ e ∈ x.Nodes, ac_.sz e ≤ 1048576 := fun e he => by have := bD_ (f := ac_.sz) he; omega
 simp (disch := omega) only [zD_, c49, ad_.cells, bH_, Option.map_some, go_sem, Nat.reduceEqDiff, Nat.reduceAdd, ↓reduceIte]
 refine k6_ (h0 ++ [⟨30, 1, [[.list 0 3 (x.Nodes.map ac_.cells)]]⟩, ⟨30, 1, [[.val (.slice none 0 0)]]⟩, ⟨30, 1, [[.own (h0.length + 3) 0]]⟩, ⟨112, 3, []⟩]) (fun t => nR_ (h0 ++ [⟨30, 1, [[.list 0 3 (x.Nodes.map ac_.cells)]]⟩, ⟨30, 1, [[.val (.slice none 0 0)]]⟩]) [] (.ty 30) 1 [] [] 112 3 (h0.length + 3) (by simp) (by simp) (by simp)) ?_
 refine aL_ (fun n t h => ∃ (k : Nat) (done : List (List AV)), t 2 = .ptr (h0.length + 1) 1 0 0 ∧ t 3 = .ptr (h0.length + 2) 1 0 0 ∧ t 8 = .list 0 3 (x.Nodes.map ac_.cells) ∧ t 9 = .val (.int .i64 x.Nodes.length) ∧ t 10 = .val (.int .i64 k) ∧ aJ_ h0 h ∧
  h[h0.length + 1]? = some ⟨30, 1, [[.val (.slice none 0 0)]]⟩ ∧ h[h0.length + 2]? = some ⟨30, 1, [[.own (h0.length + 3) k]]⟩ ∧
  cM_ (h0.length + 3) h 112 3 done ((x.Nodes.take k).map ac_.cells) ∧ done.length = k ∧ n = x.Nodes.length - k ∧ k ≤ x.Nodes.length) x.Nodes.length ?_ ?_
 ·exact ⟨0, [], rfl, rfl, rfl, rfl, rfl, aJ_.app _ _, by rw [b8_]; rfl, by rw [b8_]; rfl, cM_.zero (by rw [b8_]; rfl), rfl, rfl, Nat.zero_le _⟩
 rintro J hJ n t h ⟨k, done, t2, t3, t8, t9, t10, hM, o1, o2, hG, hd, rfl, hk⟩
 have o3 := hG.row
 by_cases hlt : k < x.Nodes.length
 ·have w2 := fun l => a1_ (l := l) o2
  have ml := hM.len
  have gl := hG.lt
  simp (disch := omega) only [t2, t3, t8, t9, t10, o2, w2, hlt, ac_.cells, ag_, go_sem, Nat.reduceEqDiff, Nat.reduceAdd, ↓reduceIte]
  refine bJ_ (kh_ x.Nodes[k] (hm _ (getElem_mem hlt))) (fun av H1 m1 F1 q1 => ?_)
  obtain ⟨l, rfl⟩ := q1
  have p1 := m1.at (a1_ o1)
  have p2 := m1.at (a1_ o2)
  have p3 := m1.at (a1_ o3)
  have v1 := fun l => a1_ (l := l) p1
  have v2 := fun l => a1_ (l := l) p2
  have v3 := fun l => a1_ (l := l) p3
  have l1 := m1.len
  simp only [la_, lc_, ln_] at l1
  have z2 := fun r l => yQ_ (l := l) (i := h0.length + 3) p2 r (by omega)
  simp (disch := omega) only [t3, t10, p2, v2, v3, z2, hd, vS_, set_append_left, go_sem, Nat.reduceEqDiff, Nat.reduceAdd, Nat.reduceLeDiff, ↓reduceIte]
  refine ⟨by omega, by omega, x.Nodes.length - (k + 1), by omega, hJ _ _ _ ⟨k + 1, done ++ [[.val (.string x.Nodes[k].Name), .own l x.Nodes[k].Subs.length, .val (.string x.Nodes[k].Value)]], by simp [upd, t2], by simp [upd, t3], by simp [upd, t8], by simp [upd, t9], by simp [upd], ?_, ?_, ?_, ?_, ?_, rfl, by omega⟩⟩
  ·exact ((((hM.add _).trans m1).set (by omega)).set (by omega)).add _
  ·exact a1_ (by rw [getElem?_set_ne (by omega), getElem?_set_ne (by omega)]; exact p1)
  ·exact yd_ (by rw [getElem?_set_ne (by omega)]; exact p2) _
  ·rw [take_succ_eq_append_getElem hlt, map_append]
   refine (hG.more (H' := h ++ [_]) (by simp) (fun y q1 q2 => getElem?_append_left q2)).step F1.tree.unagg m1.len (fun y q1 q2 => m1.kept y q2) (by simp) (fun y q1 q2 => ?_) ?_
   ·rw [getElem?_append_left (by simpa using q2), getElem?_set_ne (by omega), getElem?_set_ne (by omega)]
   ·exact a1_ (by rw [getElem?_set_ne (by omega)]; exact hV_ p3 _)
  ·simp [hd]
 ·have u1 := fun r => hV_ o1 r
  simp (disch := omega) only [t2, t3, t8, t9, t10, o1, o2, u1, hlt, ag_, go_sem, Nat.reduceEqDiff, Nat.reduceAdd, ↓reduceIte]
  have e : k = x.Nodes.length := by omega
  subst e
  rw [take_length] at hG
  have g2 := hG.more (H' := h.set (h0.length + 1) ⟨30, 1, [[.own (h0.length + 3) x.Nodes.length]]⟩) (by simp) (fun y q1 q2 => by rw [getElem?_set_ne (by omega)])
  exact ⟨⟨hM.set (by omega), (aA_.agg (ap_.cons (g2.done hd) (ap_.nil _ _ _) ⟨Nat.le_of_lt g2.lt, Nat.le_refl _⟩)).widen (by omega) (Nat.le_refl _)⟩, _, rfl, done, g2.row⟩
def Bv_ : LC :=
 .seq (.ops [.ki 4 0]) (.seq (.seq (.ops [.m 6 0, .ll 7 6, .ki 8 0]) (.block 0 (.loop (.seq (.ops [.bb 9 .lss false 8 7]) (.seq (.cond (.tmp 9) .skip (.exit 0)) (.seq (.block 1 (.seq (.ops [.m 10 8, .m 5 10]) (.seq (.ops
 [.m 11 1, .m 12 0, .m 13 5, .ia 14 3 12 13, .ld 15 3 14, .s 16 (.callv (.tmp 11) [.tmp 15])]) (.cond (.tmp 16) (.seq (.ops [.m 17 5, .m 4 17]) .ret) .skip)))) (.ops [.bk 18 .add false 8 1, .m 8 18]))))))) (.seq (.ops [.s
 4 (.mov (.const (.int .i64 (-1))))]) .ret))
def x1_ : LF := ⟨2, 19, Bv_, [.tmp 4]⟩
theorem Bh_ : at_ Tryz.prog Tryz.f214 x1_ := ai_
theorem gH_ {lo E l m : Nat} {H : List Row} {ts : List Tr} (s : bY_ lo H E 3 l m ts) (p : Tr → Bool) (G : Nat) (caps : List AV) (hm : m ≤ 1048576) (hc : co_ Tryz.prog G = true)
 (hp : ∀ H' : List Row, H.length ≤ H'.length → (∀ x, x < H.length → x ≠ l → H'[x]? = H[x]?) → ∀ t ∈ ts.take m, mZ_ Tryz.prog G (.agg t.c :: caps) H' (.val (.bool (p t)))) : mZ_ Tryz.prog 214 [.sub l ts.length 0 m, .fn G [] caps] H (.val (.int .i64 (b2_ p (ts.take m) 0))) := by
 intro K hk
 refine bd_ mixed Tryz.func214 Bh_ (cb_ rfl ?_)
 have hr := s.row
 have hle := s.le
 simp (disch := omega) only [x1_, Bv_, hr, Nat.sub_zero, go_sem, reduceCtorEq, Int.reduceNeg, ↓reduceIte]
 refine aL_ (fun n t h => ∃ k : Nat, t 0 = .sub l ts.length 0 m ∧ t 1 = .fn G [] caps ∧ t 7 = .val (.int .i64 m) ∧ t 8 = .val (.int .i64 k) ∧ aJ_ H h ∧ n = m - k ∧ k ≤ m ∧ b2_ p (ts.take m) 0 = b2_ p ((ts.take m).drop k) k) m ⟨0, rfl, rfl, rfl, rfl, aJ_.refl _, rfl, Nat.zero_le _, rfl⟩ ?_
 rintro J hJ n t h ⟨k, t0, t1, t7, t8, hM, rfl, hk', hS⟩
 have hr := hM.at hr
 by_cases hlt : k < m
 ·have hlt2 : k < ts.length := by omega
  have hlt3 : k < (ts.take m).length := by rw [length_take]; omega
  rw [gq_ p _ k hlt3, getElem_take] at hS
  have hw := (s.wide ts[k] (getElem_mem hlt2)).1
  have htk : ts[k].c.take 3 = ts[k].c := take_of_length_le (by omega)
  simp (disch := omega) only [t0, t1, t7, t8, hr, hlt, hw, htk, hc, Int.zero_add, go_sem, Nat.reduceEqDiff, reduceCtorEq, Int.reduceNeg, ↓reduceIte]
  refine hp _ hM.len (fun x q1 _ => hM.kept x q1) _ (lG_ hlt hlt2) _ (fun H2 m2 => ?_)
  cases q : p ts[k]
  ·simp (disch := omega) only [t8, aq_, go_sem, Nat.reduceEqDiff, Int.reduceNeg, ↓reduceIte]
   exact ⟨m - (k + 1), by omega, hJ _ _ _ ⟨k + 1, by simp [upd, t0], by simp [upd, t1], by simp [upd, t7], by simp [upd], hM.trans m2, rfl, by omega, by rw [hS, q]; rfl⟩⟩
  ·simp (disch := omega) only [go_sem, Nat.reduceEqDiff, Int.reduceNeg, ↓reduceIte]
   rw [hS, q] at hk
   exact hk _ (hM.trans m2)
 ·simp (disch := omega) only [t7, t8, hlt, go_sem, Int.reduceNeg, ↓reduceIte]
  rw [hS, eg_ _ _ _ (by rw [length_take]; omega)] at hk
  exact hk _ hM
def Ao_ : LC :=
 .seq (.ops [.s 4 (.mov (.const (.slice none 0 0)))]) (.seq (.ops [.m 8 0, .m 9 1, .c2 10 214 8 9, .m 5 10]) (.seq (.seq (.ops [.m 11 5, .s 12 (.bin .eql false (.tmp 11) (.const (.int .i64 (-1))))]) (.cond (.tmp 12) (.seq
 (.ops [.m 13 0, .m 4 13]) .ret) .skip)) (.seq (.seq (.ops [.m 14 5, .bk 15 .add false 14 1, .m 6 15]) (.block 0 (.loop (.seq (.seq (.ops [.m 16 6, .m 17 0, .ll 18 17, .bb 19 .lss false 16 18]) (.cond (.tmp 19) .skip
 (.exit 0))) (.seq (.block 1 (.seq (.ops [.m 22 0, .m 23 6, .ia 24 3 22 23, .ld 25 3 24, .s 7 (.alloc 112 (.agg #[.string ⟨#[]⟩, .slice none 0 0, .string ⟨#[]⟩])), .st 3 7 25]) (.seq (.ops [.m 26 1, .ld 27 3 7, .s 28
 (.callv (.tmp 26) [.tmp 27]), .nt 29 28]) (.cond (.tmp 29) (.seq (.ops [.m 30 0, .m 31 5, .ld 32 3 7, .ia 33 3 30 31, .st 3 33 32]) (.ops [.m 34 5, .bk 35 .add false 34 1, .m 5 35])) .skip)))) (.ops [.m 20 6, .bk 21 .add
 false 20 1, .m 6 21])))))) (.seq (.ops [.m 36 0, .m 37 5, .s 38 (.sliceSl 3 (.tmp 36) (some (.tmp 37)) none), .z (.clear 112 3 (.agg #[.string ⟨#[]⟩, .slice none 0 0, .string ⟨#[]⟩]) (.tmp 38))]) (.seq (.ops [.m 39 0, .m
 40 5, .s 41 (.sliceSl 3 (.tmp 39) none (some (.tmp 40))), .m 4 41]) .ret)))))
def xa_ : LF := ⟨2, 42, Ao_, [.tmp 4]⟩
theorem za_ : at_ Tryz.prog Tryz.f185 xa_ := ai_
theorem dZ_ {lo l m : Nat} {H : List Row} {ts : List Tr} (s : bY_ lo H 112 3 l m ts) (p : Tr → Bool) (G : Nat) (caps : List AV) (hm : m ≤ 1048576) (hc : co_ Tryz.prog G = true)
 (hp : ∀ H' : List Row, H.length ≤ H'.length → (∀ x, x < H.length → x ≠ l → H'[x]? = H[x]?) → ∀ t ∈ ts.take m, mZ_ Tryz.prog G (.agg t.c :: caps) H' (.val (.bool (p t)))) {K : AV → List Row → Prop}
 (hk : ∀ (H' : List Row) (m' : Nat) (ts' : List Tr), H.length ≤ H'.length → (∀ x, x < H.length → x ≠ l → H'[x]? = H[x]?) → bY_ lo H' 112 3 l m' ts' → ts'.length = ts.length → (∀ x, x ∈ cq_ l ts' → x ∈ cq_ l ts) → ts'.take m' = (ts.take m).filter (fun t => !p t) → K (.sub l ts'.length 0 m') H') :
 callSem Tryz.prog 185 [.sub l ts.length 0 m, .fn G [] caps] H K := by
 refine bd_ mixed Tryz.func185 za_ (cb_ rfl ?_)
 have hr := s.row
 have hle := s.le
 have hll := s.lt
 simp (disch := omega) only [xa_, Ao_, go_sem, Nat.reduceEqDiff, reduceCtorEq, Int.reduceNeg, ↓reduceIte]
 refine gH_ s p G caps hm hc hp _ (fun H0 m0 => ?_)
 have l0 := m0.len
 rcases kg_ p (ts.take m) 0 with ⟨h1, h2⟩ | ⟨i0, hi0, h1, h2, h3⟩
 ·rw [h1]
  simp (disch := omega) only [go_sem, reduceCtorEq, Int.reduceNeg, ↓reduceIte]
  refine hk H0 m ts l0 (fun x q _ => m0.kept x q) (s.more m0) rfl (fun _ q => q) (filter_eq_self.2 fun a ha => by rw [h2 a ha]; rfl).symm
 rw [length_take] at hi0
 rw [getElem_take] at h2
 have hneg : (((0 + i0 : Nat) : Int) = -1) = False := eq_false (by omega)
 rw [h1]
 simp (disch := omega) only [Nat.zero_add, aq_, go_sem, Nat.reduceEqDiff, reduceCtorEq, Int.reduceNeg, ↓reduceIte]
 have hkept0 : (ts.take (i0 + 1)).filter (fun t => !p t) = ts.take i0 := by
  rw [take_succ_eq_append_getElem (by omega), filter_append]
  have e1 : (ts.take i0).filter (fun t => !p t) = ts.take i0 := filter_eq_self.2 fun a ha => by
   obtain ⟨j, hj, rfl⟩ := mem_iff_getElem.1 ha
   rw [length_take] at hj
   have := h3 j (by omega)
   rw [getElem_take] at this
   rw [getElem_take, this]; rfl
  rw [e1]; simp [h2]
 refine aL_ (fun n t h => ∃ (j : Nat) (kept W : List Tr), t 0 = .sub l ts.length 0 m ∧ t 1 = .fn G [] caps ∧ t 5 = .val (.int .i64 kept.length) ∧ t 6 = .val (.int .i64 j) ∧ H.length ≤ h.length ∧ (∀ x, x < H.length → x ≠ l → h[x]? = H[x]?) ∧ h[l]? = some ⟨.ty 112, 3, W.map Tr.c⟩ ∧
  kept = (ts.take j).filter (fun t => !p t) ∧ W.length = ts.length ∧ W.take kept.length = kept ∧ W.drop kept.length = ts.drop kept.length ∧ kept.length ≤ j ∧ n = m - j ∧ j ≤ m) (m - (i0 + 1)) ⟨i0 + 1, ts.take i0, ts, rfl, rfl, by simp [upd]; omega, by simp [upd], l0, fun x q _ => m0.kept x q, m0.at hr, hkept0.symm, rfl, by rw [length_take, Nat.min_eq_left (by omega)], rfl, by rw [length_take]; omega, rfl, by omega⟩ ?_
 rintro J hJ n t h ⟨j, kept, W, t0, t1, t5, t6, hl, hkeep, hrow, hkp, hW, hW1, hW2, hkj, rfl, hj⟩
 have gl : l < h.length := by omega
 by_cases hlt : j < m
 ·have hlt2 : j < ts.length := by omega
  have hlt3 : j < W.length := by omega
  have hlk : kept.length < W.length := by omega
  have hlkm : kept.length < m := by omega
  have hWj : W[j] = ts[j] := by
   have := congrArg (fun q => q[j - kept.length]?) hW2
   simp only [getElem?_drop] at this
   rw [Nat.add_sub_of_le hkj, getElem?_eq_getElem hlt3, getElem?_eq_getElem hlt2] at this
   exact Option.some.inj this
  have hWk : W[kept.length] = ts[kept.length] := by
   have := congrArg (fun q => q[0]?) hW2
   simp only [getElem?_drop, Nat.add_zero] at this
   rw [getElem?_eq_getElem hlk, getElem?_eq_getElem (by omega)] at this
   exact Option.some.inj this
  obtain ⟨hw, hw2⟩ := s.wide ts[j] (getElem_mem hlt2)
  have htk : ts[j].c.take 3 = ts[j].c := take_of_length_le (by omega)
  have hwk := (s.wide ts[kept.length] (getElem_mem (by omega))).1
  have hdk : ts[kept.length].c.drop 3 = [] := drop_eq_nil_of_le (by omega)
  have htk2 := fun u => take_succ_eq_append_getElem (l := ts) (i := u)
  simp (disch := (first | omega | (simp only [ls_, la_, lc_, ln_]; first | done | omega))) only [aQ_, go_sem, Nat.reduceEqDiff, Nat.reduceAdd, reduceCtorEq, ↓reduceIte, t0, t1, t6, hrow, hlt, hW, hWj, hw, hw2, htk, hc, Nat.sub_zero, Int.zero_add]
  refine hp _ (by simp; omega) (fun x q1 q2 => by (repeat (first | rw [ar_ (by omega)] | rw [aw_ (by first | omega | (simp only [ls_, la_, lc_, ln_]; omega))])); exact hkeep x q1 q2) _ (lG_ hlt hlt2) _ (fun H2 m2 => ?_)
  have l2 := m2.len
  simp only [la_, lc_, ln_] at l2
  have rw2 := m2.at (a1_ hrow)
  have rw3 := m2.at (lj_ h _)
  cases q : p ts[j]
  ·simp (disch := (first | omega | (simp only [ls_, la_, lc_, ln_]; first | done | omega))) only [go_sem, Nat.reduceEqDiff, reduceCtorEq, ↓reduceIte, t0, t5, t6, rw2, rw3, hlkm, hW, hWk, hw, hw2, htk, hwk, hdk, Int.zero_add, aq_]
   have e1 : (ts.take (j + 1)).filter (fun t => !p t) = kept ++ [ts[j]] := by rw [htk2 j hlt2, filter_append, ← hkp]; simp [q]
   refine ⟨m - (j + 1), by omega, hJ _ _ _ ⟨j + 1, kept ++ [ts[j]], W.set kept.length ts[j], by simp [upd, t0], by simp [upd, t1], by simp [upd], by simp [upd], by (try simp only [ls_]); omega, fun x q1 q2 => ?_, ?_, e1.symm, by simp [hW], ?_, ?_, by simp; omega, rfl, by omega⟩⟩
   ·rw [ar_ (by omega), m2.kept x (by simp; omega), aw_ (by omega)]; exact hkeep x q1 q2
   ·rw [aD_ (by omega), map_set]
   ·rw [la_, length_singleton, take_succ_eq_append_getElem (by simpa using hlk), getElem_set_self, take_set_of_le (Nat.le_refl _), hW1]
   ·rw [la_, length_singleton, drop_set_of_lt (by omega), ← drop_drop, hW2, drop_drop]
  ·simp (disch := (first | omega | (simp only [ls_, la_, lc_, ln_]; first | done | omega))) only [go_sem, Nat.reduceEqDiff, ↓reduceIte, t6, aq_]
   have e1 : (ts.take (j + 1)).filter (fun t => !p t) = kept := by rw [htk2 j hlt2, filter_append, ← hkp]; simp [q]
   refine ⟨m - (j + 1), by omega, hJ _ _ _ ⟨j + 1, kept, W, by simp [upd, t0], by simp [upd, t1], by simp [upd, t5], by simp [upd], by omega, fun x q1 q2 => ?_, ?_, e1.symm, hW, hW1, hW2, by omega, rfl, by omega⟩⟩
   ·rw [m2.kept x (by simp; omega), aw_ (by omega)]; exact hkeep x q1 q2
   ·exact rw2
 have e : j = m := by omega
 subst e
 have zc : List AV := [.val (.string (txt [])), .val (.slice none 0 0), .val (.string (txt []))]
 have hz : (W.map Tr.c).take kept.length ++ (List.replicate (j - kept.length) [.val (.string (txt [])), .val (.slice none 0 0), .val (.string (txt []))] ++ (W.map Tr.c).drop j) = (kept ++ (List.replicate (j - kept.length) (⟨[.val (.string (txt [])), .val (.slice none 0 0), .val (.string (txt []))], [.val (.string (txt [])), .val (.slice none 0 0), .val (.string (txt []))], []⟩ : Tr) ++ ts.drop j)).map Tr.c := by
  have e2 : W.drop j = ts.drop j := by
   have := congrArg (List.drop (j - kept.length)) hW2
   rwa [drop_drop, drop_drop, Nat.add_sub_of_le hkj] at this
  rw [map_append, map_append, map_replicate, ← map_take, ← map_drop, hW1, e2]
 have hz2 : (kept ++ (List.replicate (j - kept.length) (⟨[.val (.string (txt [])), .val (.slice none 0 0), .val (.string (txt []))], [.val (.string (txt [])), .val (.slice none 0 0), .val (.string (txt []))], []⟩ : Tr) ++ ts.drop j)).length = ts.length := by
  simp only [la_, length_replicate, length_drop]; omega
 have hkt := hkj
 generalize hts : kept ++ (List.replicate (j - kept.length) (⟨[.val (.string (txt [])), .val (.slice none 0 0), .val (.string (txt []))], [.val (.string (txt [])), .val (.slice none 0 0), .val (.string (txt []))], []⟩ : Tr) ++ ts.drop j) = ts' at hz hz2
 simp (disch := (first | omega | (simp only [ls_, la_, lc_, ln_]; first | done | omega))) only [aD_, go_sem, Nat.reduceEqDiff, reduceCtorEq, ↓reduceIte, t0, t5, t6, hrow, hlt, hW, hle, hkt, hz, hz2, Nat.sub_zero]
 have hold : (kept ++ ts.drop j).Sublist ts := by
  have : (ts.take j ++ ts.drop j).Sublist ts := by rw [take_append_drop]; exact List.Sublist.refl _
  exact (List.Sublist.append (by rw [hkp]; exact filter_sublist) (List.Sublist.refl _)).trans this
 have hnil : ∀ x, x ∉ ((List.replicate (j - kept.length) (⟨[.val (.string (txt [])), .val (.slice none 0 0), .val (.string (txt []))], [.val (.string (txt [])), .val (.slice none 0 0), .val (.string (txt []))], []⟩ : Tr)).map Tr.f).flatten := by
  intro x hx
  obtain ⟨f, q1, q2⟩ := mem_flatten.1 hx
  obtain ⟨y, q3, rfl⟩ := mem_map.1 q1
  rw [(mem_replicate.1 q3).2] at q2
  cases q2
 have hfin : bY_ lo (h.set l ⟨.ty 112, 3, ts'.map Tr.c⟩) 112 3 l kept.length ts' := by
  refine s.renew (l' := l) (new := List.replicate (j - kept.length) (⟨[.val (.string (txt [])), .val (.slice none 0 0), .val (.string (txt []))], [.val (.string (txt [])), .val (.slice none 0 0), .val (.string (txt []))], []⟩ : Tr)) (old := kept ++ ts.drop j) (aD_ gl) (by omega) ?_ hold (fun t ht => by rw [(mem_replicate.1 ht).2]; exact ⟨rfl, rfl⟩) ⟨1, fun t ht => ?_⟩ ?_ (fun x hx => absurd hx (hnil x)) (fun x hx => ?_) (.inl rfl) (by simpa using hl)
  ·rw [← hts]
   exact (perm_append_comm_assoc _ _ _)
  ·rw [(mem_replicate.1 ht).2]
   repeat (first | exact ⟨rfl, rfl⟩ | refine ⟨_, _, [], [], rfl, rfl, ⟨rfl, .inl rfl⟩, ?_⟩)
  ·rw [eq_nil_iff_forall_not_mem.2 hnil]; exact nodup_nil
  ·have h5 : x ≠ l := fun e => (nodup_cons.1 s.one).1 (e ▸ hx)
   have h6 := (s.lows x (mem_cons_of_mem _ hx)).2
   rw [ar_ (by omega)]; exact hkeep x h6 h5
 have := hk _ kept.length ts' (by simpa using hl) (fun x q1 q2 => by rw [ar_ (by omega)]; exact hkeep x q1 q2) hfin hz2 ?_ (by rw [← hts, take_left', hkp]; rfl)
 ·rw [hz2] at this; exact this
 ·intro x hx
  rw [← hts] at hx
  rcases mem_cons.1 hx with q | q
  ·subst q; simp [cq_]
  ·obtain ⟨f, q1, q2⟩ := mem_flatten.1 q
   obtain ⟨y, q3, rfl⟩ := mem_map.1 q1
   rcases mem_append.1 q3 with q4 | q4
   ·exact jC_ (hold.subset (mem_append_left _ q4)) q2
   ·rcases mem_append.1 q4 with q5 | q5
    ·rw [(mem_replicate.1 q5).2] at q2; cases q2
    ·exact jC_ (mem_of_mem_drop q5) q2
def lU_ (d : List AV) : ac_ := match d with
 | [.val (.string n), .list _ _ es, .val (.string v)] => ⟨n, es.map (fun e => match e with | [.val (.string s)] => s | _ => txt []), v⟩
 | _ => ⟨txt [], [], txt []⟩
theorem m0_ (a : ac_) : lU_ (ac_.cells a) = a := by
 have : (a.Subs.map am_).map (fun e => match e with | [.val (.string s)] => s | _ => txt []) = a.Subs := by
  rw [map_map]
  conv => rhs; rw [← map_id a.Subs]
  exact map_congr_left fun x _ => rfl
 show (⟨a.Name, (a.Subs.map am_).map _, a.Value⟩ : ac_) = a
 rw [this]
def Cj_ : LC :=
 .seq (.ops [.s 3 (.box 112 (.tmp 0)), .s 4 (.mov (.const (.bool false)))]) (.seq (.ops [.ld 5 3 3, .ln 6 1, .ln 7 2, .c3 8 187 5 6 7, .m 4 8]) .ret)
def wi_ : LF := ⟨3, 9, Cj_, [.tmp 4]⟩
theorem AG_ : at_ Tryz.prog Tryz.f186 wi_ := ai_
theorem jy_ (a : ac_) (n : ByteArray) (s : List ByteArray) (ha : ac_.sz a ≤ 1048576) (h : List Row) : aa_ Tryz.prog 186 [.agg (ac_.cells a), .iptr [.val (.string n)], .iptr [.list 0 1 (s.map am_)]] h (.val (.bool (inN n s a))) := by
 refine aj_ mixed Tryz.func186 AG_ rfl rfl ?_ h
 have hin : ∀ H, aa_ Tryz.prog 187 [.agg [.val (.string a.Name), .list 0 1 (a.Subs.map am_), .val (.string a.Value)], .val (.string n), .list 0 1 (s.map am_)] H (.val (.bool (inN n s a))) := fun H => fJ_ a n s ha H
 simp (disch := omega) only [wi_, Cj_, ac_.cells, go_sem, Nat.reduceEqDiff, Nat.reduceAdd, ↓reduceIte]
 refine aa_.call (hin _) ?_
 simp (disch := omega) only [go_sem, ↓reduceIte]
 exact af_ _ _
def uE_ : LC :=
 .seq (.ops [.s 4 (.box 9 (.tmp 1)), .s 5 (.box 72 (.tmp 2))]) (.ops [.m 6 0, .m 7 0, .nc 8 7, .fa 9 0 8, .ln 10 9, .s 11 (.mkFunc 186 [] [.tmp 4, .tmp 5]), .c2 12 185 10 11, .nc 13 6, .fa 14 0 13, .st 1 14 12])
def si_ : LF := ⟨3, 15, uE_, []⟩
theorem Dh_ : at_ Tryz.prog Tryz.f146 si_ := ai_
theorem kD_ {lo l N k off nl m sz : Nat} {E0 : Tag} {es : List (List AV)} {pre post : List AV} {a : AV} {us : List Tr} {H : List Row} {ns : List ac_} {sa : AV} (n : ByteArray) (s : List ByteArray) (hsh : sa = .list 0 1 (s.map am_) ∨ ∃ ls k, sa = .own ls k) (hsa : ∀ H' : List Row, (∀ y, y < H.length → y ≠ nl → H'[y]? = H[y]?) → cg_ H' sa (.list 0 1 (s.map am_))) (hns : ao_ ac_.sz ns ≤ 1048576)
 (hrow : H[l]? = some ⟨E0, sz, es⟩) (hN : es.length = N) (he : es[k]? = some (pre ++ a :: post)) (ho : pre.length = off) (hS : Sl a nl m us) (sl : bY_ lo H 112 3 nl m us) (hfl : l ∉ cq_ nl us) (hd : (us.take m).map Tr.d = ns.map ac_.cells)
 {K : AV → List Row → Prop} (hk : ∀ (H' : List Row) (m' : Nat) (us' : List Tr), H.length ≤ H'.length → (∀ x, x < H.length → x ≠ l → x ≠ nl → H'[x]? = H[x]?) → bY_ lo H' 112 3 nl m' us' → us'.length = us.length → (∀ x, x ∈ cq_ nl us' → x ∈ cq_ nl us) → (us'.take m').map Tr.d = (cT_ ns n s).map ac_.cells →
  H'[l]? = some ⟨E0, sz, es.set k (pre ++ .sub nl us'.length 0 m' :: post)⟩ → K (.tup []) H') :
 callSem Tryz.prog 146 [.ptr l N k off, .val (.string n), sa] H K := by
 refine bd_ mixed Tryz.func146 Dh_ (cb_ rfl ?_)
 have hll := (List.getElem?_eq_some_iff.1 hrow).1
 have hnl := sl.lt
 have hne : l ≠ nl := fun q => hfl (by subst q; exact mem_cons_self)
 have hle := sl.le
 have hml : m = ns.length := by
  have := congrArg List.length hd
  rw [length_map, length_map, length_take] at this
  omega
 have hm : m ≤ 1048576 := by rw [hml]; exact ax_ hns
 have d1 : (pre ++ a :: post).drop off = a :: post := by rw [← ho]; simp
 have d2 : ∀ b : AV, (pre ++ b :: post).length = off + (post.length + 1) := fun b => by rw [← ho]; simp
 have d3 : (pre ++ a :: post).take off = pre := by rw [← ho]; simp
 have d4 : (pre ++ a :: post).drop (off + 1) = post := by rw [← ho, ← drop_drop]; simp
 have sl2 : bY_ lo (H ++ [⟨.ty 9, 1, [[.val (.string n)]]⟩, ⟨.ty 72, 1, [[sa]]⟩]) 112 3 nl m us := sl.more (aJ_.app _ _)
 have hp : ∀ H' : List Row, (H ++ [⟨.ty 9, 1, [[.val (.string n)]]⟩, ⟨.ty 72, 1, [[sa]]⟩] : List Row).length ≤ H'.length → (∀ x, x < (H ++ [⟨.ty 9, 1, [[.val (.string n)]]⟩, ⟨.ty 72, 1, [[sa]]⟩] : List Row).length → x ≠ nl → H'[x]? = (H ++ [⟨.ty 9, 1, [[.val (.string n)]]⟩, ⟨.ty 72, 1, [[sa]]⟩] : List Row)[x]?) →
  ∀ t ∈ us.take m, mZ_ Tryz.prog 186 [.agg t.c, .ptr H.length 1 0 0, .ptr (H.length + 1) 1 0 0] H' (.val (.bool (inN n s (lU_ t.d)))) := by
  intro H' h1 h2 t ht
  have h3 : t.d ∈ ns.map ac_.cells := by rw [← hd]; exact mem_map.2 ⟨t, ht, rfl⟩
  obtain ⟨x, hx, e⟩ := mem_map.1 h3
  have ht2 : t ∈ us := mem_of_mem_take ht
  have ha : bL_ H' (.agg t.c) (.agg (ac_.cells x)) := by
   rw [e]
   refine (sl2.arg ht2 fun y hy => h2 y ?_ ?_).any
   ·exact (sl2.lows y (jC_ ht2 hy)).2
   ·intro q; subst q; exact sl2.apart ht2 hy
  rw [← e, m0_]
  refine aa_.quiet (aa_.anyR rfl (fun Hh => jy_ x n s (b6_ hns hx) Hh) (a3_.cons ha (a3_.cons (bL_.box (E := .ty 9) (sz := 1) ?_ (bL_.same rfl)) (a3_.cons (bL_.box (E := .ty 72) (sz := 1) ?_ (hsa H' fun y g1 g2 => by rw [h2 y (by simp; omega) g2, aw_ g1]).any) a3_.nil))))
  ·rw [h2 _ (by simp) (by omega)]; exact aQ_ rfl
  ·rw [h2 _ (by simp) (by omega)]; exact cB_ rfl
 have fin : ∀ (H' : List Row) (m' : Nat) (us' : List Tr), (H ++ [⟨.ty 9, 1, [[.val (.string n)]]⟩, ⟨.ty 72, 1, [[sa]]⟩] : List Row).length ≤ H'.length → (∀ x, x < (H ++ [⟨.ty 9, 1, [[.val (.string n)]]⟩, ⟨.ty 72, 1, [[sa]]⟩] : List Row).length → x ≠ nl → H'[x]? = (H ++ [⟨.ty 9, 1, [[.val (.string n)]]⟩, ⟨.ty 72, 1, [[sa]]⟩] : List Row)[x]?) →
  bY_ lo H' 112 3 nl m' us' → us'.length = us.length → (∀ x, x ∈ cq_ nl us' → x ∈ cq_ nl us) → us'.take m' = (us.take m).filter (fun t => !inN n s (lU_ t.d)) →
  H'[l]? = some ⟨E0, sz, es⟩ ∧ K (.tup []) (H'.set l ⟨E0, sz, es.set k (pre ++ .sub nl us'.length 0 m' :: post)⟩) := by
  intro H' m' us' h1 h2 h3 h4 h5 h6
  have h1' : H.length + 2 ≤ H'.length := by simpa using h1
  refine ⟨by rw [h2 l (by simp; omega) hne, aw_ hll]; exact hrow, hk _ m' us' (by rw [ls_]; omega) (fun x q1 q2 q3 => ?_) (h3.keep (fun x hx => ar_ (fun q => ?_)) (by simp)) h4 h5 ?_ (aD_ (by omega))⟩
  ·rw [ar_ (Ne.symm q2), h2 x (by simp; omega) q3, aw_ q1]
  ·subst q
   have := h5 l hx
   exact hfl this
  ·rw [h6, cT_]
   have : ∀ (ts : List Tr) (xs : List ac_), ts.map Tr.d = xs.map ac_.cells → (ts.filter fun t => !inN n s (lU_ t.d)).map Tr.d = (xs.filter fun a => !inN n s a).map ac_.cells := by
    intro ts
    induction ts with
    | nil => intro xs h; cases xs with
     | nil => rfl
     | cons x xs => simp at h
    | cons t ts ih =>
     intro xs h
     cases xs with
     | nil => simp at h
     | cons x xs =>
      simp only [map_cons, List.cons.injEq] at h
      have e : lU_ t.d = x := by rw [h.1, m0_]
      simp only [filter_cons, e]
      split
      ·simp only [map_cons, h.1, ih xs h.2]
      ·exact ih xs h.2
   exact this _ _ hd
 rcases hS with rfl | ⟨rfl, rfl⟩
 ·rcases hsh with rfl | ⟨ls, ks, rfl⟩
  all_goals
   simp (disch := (first | omega | (simp only [ls_, la_, lc_, ln_]; first | done | omega))) only [aw_, go_sem, Nat.reduceEqDiff, reduceCtorEq, ↓reduceIte, si_, uE_, hrow, hN, he, d1, Nat.add_zero]
   refine dZ_ sl2 (fun t => inN n s (lU_ t.d)) 186 _ hm (by kernel_rfl) hp (fun H' m' us' h1 h2 h3 h4 h5 h6 => ?_)
   obtain ⟨r1, r2⟩ := fin H' m' us' h1 h2 h3 h4 h5 h6
   simp (disch := (first | omega | (simp only [ls_, la_, lc_, ln_]; first | done | omega))) only [go_sem, Nat.reduceEqDiff, ↓reduceIte, r1, hN, he, d2, d3, d4, Nat.add_zero]
   exact ⟨by omega, [], rfl, r2⟩
 ·rcases hsh with rfl | ⟨ls, ks, rfl⟩
  all_goals
   simp (disch := (first | omega | (simp only [ls_, la_, lc_, ln_]; first | done | omega))) only [aw_, go_sem, Nat.reduceEqDiff, reduceCtorEq, ↓reduceIte, si_, uE_, hrow, hN, he, d1, Nat.add_zero]
   refine callSem.own_sub ?_
   refine dZ_ sl2 (fun t => inN n s (lU_ t.d)) 186 _ hm (by kernel_rfl) hp (fun H' m' us' h1 h2 h3 h4 h5 h6 => ?_)
   obtain ⟨r1, r2⟩ := fin H' m' us' h1 h2 h3 h4 h5 h6
   simp (disch := (first | omega | (simp only [ls_, la_, lc_, ln_]; first | done | omega))) only [go_sem, Nat.reduceEqDiff, ↓reduceIte, r1, hN, he, d2, d3, d4, Nat.add_zero]
   exact ⟨by omega, [], rfl, r2⟩
end Go.Proofs.YtfplhbjggecnpaaGreatDoor
