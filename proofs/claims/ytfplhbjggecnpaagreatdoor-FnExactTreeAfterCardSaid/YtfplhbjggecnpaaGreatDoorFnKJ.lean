/-
 Contracts of functions of this program, over abstract values. Conditions: as each theorem says.
-/
import Derived.Test.YtfplhbjggecnpaaGreatDoorFnKD
import Derived.Test.YtfplhbjggecnpaaGreatDoorPlKey
import Derived.Test.YtfplhbjggecnpaaGreatDoorAwC
namespace Go.Proofs.YtfplhbjggecnpaaGreatDoor
open List
open Go.AW
set_option linter.unusedVariables false
set_option linter.unusedSimpArgs false
set_option maxRecDepth 4000
abbrev ee_ (out : List (List UInt8)) : List (List AV) := (out.map txt).map am_
theorem p8_ (out : List (List UInt8)) : bss (out.map txt) = out := by
 rw [bss, map_map]
 conv => rhs; rw [← map_id out]
 exact map_congr_left fun x _ => ca_ x
theorem ej_ (out : List (List UInt8)) : bh_ (out.map txt) = eI_ out := by
 rw [Bool.eq_iff_iff]
 simp only [bh_, eI_, bR_, z4_, length_map, all_map, Bool.and_eq_true, decide_eq_true_eq, all_eq_true, Function.comp, b9_]
 constructor
 ·rintro ⟨h1, h2⟩
  exact ⟨by omega, fun x hx => by have := h2 x hx; omega⟩
 ·rintro ⟨h1, h2⟩
  exact ⟨by omega, fun x hx => by have := h2 x hx; omega⟩
theorem fX_ (l : List UInt8) (h : 0 < l.length) : dV_ l = if l[0] = 1 then nf_ (l.drop 1) else if l[0] = 2 then cs_ (l.drop 1) [] else none := by
 cases l with
 | nil => simp at h
 | cons b l => rfl
theorem iN_ : kq_ none = .tup [.val (.string (txt [])), .val (.string (txt [])), .val (.bool false)] := rfl
theorem iU_ (t r : List UInt8) : kq_ (some (t, r)) = .tup [.val (.string (txt t)), .val (.string (txt r)), .val (.bool true)] := rfl
def dW_ (s : ByteArray) : List ByteArray × Bool :=
 match f1_ dV_ (bs s) with
 | some xs => (xs.map txt, true)
 | none => ([], false)
abbrev oX_ (p : List ByteArray × Bool) : AV := .tup [.list 0 1 (p.1.map am_), .val (.bool p.2)]
theorem kM_ {s : ByteArray} (h : cX_ dV_ 5 (bs s) [] = none) : dW_ s = ([], false) := by
 rw [dW_, f1_, h]
theorem ni_ {s : ByteArray} {out : List (List UInt8)} {left : List UInt8} (h : cX_ dV_ 5 (bs s) [] = some (out, left)) (q : ¬ (left = [] ∧ eI_ out = true ∧ cU_ out = bs s)) : dW_ s = ([], false) := by
 rw [dW_, f1_, h]; simp only; rw [if_neg q]
theorem uY_ {s : ByteArray} {out : List (List UInt8)} (h : cX_ dV_ 5 (bs s) [] = some (out, [])) (h2 : eI_ out = true) (h3 : cU_ out = bs s) : dW_ s = (out.map txt, true) := by
 simp [dW_, f1_, h, h2, h3]
theorem ub_ {out : List (List UInt8)} (h : eI_ out = true) : out.length ≤ 4 := by
 simp only [eI_, Bool.and_eq_true, decide_eq_true_eq] at h; exact h.1
theorem oD_ (out : List (List UInt8)) : ∀ e ∈ ee_ out, e.all AV.flat = true := by
 intro e he
 obtain ⟨x, _, q⟩ := mem_map.1 he; subst q; rfl
theorem qg_ (h0 : List Row) (out : List (List UInt8)) (rest : List Row) : [AV.own h0.length out.length].mapM (AW.resolve (h0 ++ ⟨9, 1, ee_ out⟩ :: rest) 2) = some [.list 0 1 (ee_ out)] :=
 pn_ (lh_ (n := 0) (r := ⟨9, 1, ee_ out⟩) (by rw [cy_]; rfl) (by simp) (oD_ out))
theorem fq_ {base l : Nat} {H : List Row} {E : Tag} {out : List ByteArray} (hl : H[l]? = some ⟨E, 1, out.map am_⟩) (hb : base ≤ l) : aA_ base (l + 1) H (.own l out.length) (.list 0 1 (out.map am_)) :=
 aA_.mkown (lo := l + 1) (hi := l + 1) (bt_.ofVals _ _ _ _ (by
  intro e he c hc
  obtain ⟨x, _, q⟩ := mem_map.1 he; subst q
  simp only [am_, mem_singleton] at hc
  exact ⟨_, hc⟩)) hl (by simp) hb (Nat.lt_succ_self _) (Nat.le_refl _)
theorem c3_ {lo hi : Nat} {H : List Row} {a r : AV} (h : aA_ lo hi H a r) (hlh : lo ≤ hi) (v : Value) : em_ lo H (.tup [a, .val v]) (.tup [r, .val v]) :=
 (aA_.tup (ap_.cons h (ap_.val v (ap_.nil hi hi H)) ⟨hlh, Nat.le_refl _⟩)).fresh
theorem tR_ {out : List (List UInt8)} (h : eI_ out = true) : i0_ (out.map txt) = cU_ out := by
 rw [i0_, ej_, if_pos h, p8_]
theorem n0_ (take : List UInt8 → Option (List UInt8 × List UInt8)) (f : Nat) (l : List UInt8) (out : List (List UInt8)) (h : l ≠ []) : cX_ take (f + 1) l out = match take l with
 | none => none
 | some (t, r) => cX_ take f r (out ++ [t]) := by
 rw [cX_, if_neg h]; cases take l <;> rfl
theorem lP_ (l : List UInt8) : (txt l = txt []) = (l = []) := rm_ l []
def zk_ : LC :=
 .seq (.ops [.s 2 (.mov (.const (.slice none 0 0))), .s 3 (.mov (.const (.bool false)))]) (.seq (.ops [.s 8 (.buildSlice 9 1 (.string ⟨#[]⟩) 0 []), .m 9 0, .m 4 8, .m 5 9]) (.seq (.block 0 (.loop (.seq (.seq (.ops [.m 10
 5, .s 11 (.bin .neq false (.tmp 10) (.const (.string ⟨#[]⟩))), .m 12 11, .g 13 12 true (.mov (.tmp 4)), .g 14 12 true (.lenSl (.tmp 13)), .g 15 12 true (.bin .leq false (.tmp 14) (.const (.int .i64 4))), .pf 16 12 15])
 (.cond (.tmp 16) .skip (.exit 0))) (.block 1 (.seq (.ops [.s 6 (.mov (.const (.string ⟨#[]⟩)))]) (.seq (.ops [.s 7 (.mov (.const (.bool false)))]) (.seq (.seq (.ops [.m 17 5, .s 18 (.indexStr (.tmp 17) (.const (.int .i64
 0)))]) (.block 2 (.seq (.ops [.s 20 (.bin .eql false (.tmp 18) (.const (.int .u8 1))), .m 19 20]) (.cond (.tmp 19) (.ops [.m 22 5, .s 23 (.sliceStr (.tmp 22) (some (.const (.int .i64 1))) none), .c1 24 207 23, .m 21 24,
 .ex 25 21 0, .ex 26 21 1, .ex 27 21 2, .m 6 25, .m 5 26, .m 7 27]) (.seq (.ops [.s 29 (.bin .eql false (.tmp 18) (.const (.int .u8 2))), .m 28 29]) (.cond (.tmp 28) (.ops [.m 31 5, .s 32 (.sliceStr (.tmp 31) (some
 (.const (.int .i64 1))) none), .c1 33 208 32, .m 30 33, .ex 34 30 0, .ex 35 30 1, .ex 36 30 2, .m 6 34, .m 5 35, .m 7 36]) .skip)))))) (.seq (.seq (.ops [.m 37 7, .nt 38 37]) (.cond (.tmp 38) (.seq (.ops [.s 2 (.mov
 (.const (.slice none 0 0))), .s 3 (.mov (.const (.bool false)))]) .ret) .skip)) (.ops [.m 39 4, .m 40 6, .s 41 (.buildSlice 9 1 (.string ⟨#[]⟩) 1 [(0, .tmp 40)]), .ap 42 9 1 16 39 41, .m 4 42]))))))))) (.seq (.seq (.ops
 [.m 43 4, .c1 44 143 43, .nt 45 44, .m 46 45, .g 47 46 false (.mov (.tmp 4)), .g 48 46 false (.call 153 [.tmp 47]), .g 49 46 false (.mov (.tmp 0)), .g 50 46 false (.bin .neq false (.tmp 48) (.tmp 49)), .pt 51 46 50])
 (.cond (.tmp 51) (.seq (.ops [.s 2 (.mov (.const (.slice none 0 0))), .s 3 (.mov (.const (.bool false)))]) .ret) .skip)) (.seq (.ops [.m 52 4, .m 2 52, .s 3 (.mov (.const (.bool true)))]) .ret))))
def xV_ : LF := ⟨1, 53, zk_, [.tmp 2, .tmp 3]⟩
theorem zr_ : at_ Tryz.prog Tryz.f180 xV_ := ai_
theorem kE_ (s : ByteArray) (hs : s.size ≤ 1048576) : aP_ Tryz.prog 180 [.val (.string s)] (oX_ (dW_ s)) (fun a => ∃ b q, a = .tup [b, .val (.bool q)]) := by
 refine da_ mixed Tryz.func180 zr_ rfl (fun h0 => ?_)
 have hbl := fa_ s
 simp (disch := omega) only [xV_, zk_, go_sem, Nat.reduceEqDiff, reduceCtorEq, ↓reduceIte]
 refine aL_ (fun n t h => ∃ (out : List (List UInt8)) (left : List UInt8) (rest : List Row), t 0 = .val (.string s) ∧ t 4 = .own h0.length out.length ∧ t 5 = .val (.string (txt left)) ∧ h = h0 ++ ⟨9, 1, ee_ out⟩ :: rest ∧ n = 5 - out.length ∧ out.length ≤ 5 ∧ left.length ≤ s.size ∧ cX_ dV_ 5 (bs s) [] = cX_ dV_ (5 - out.length) left out) 5 ?_ ?_
 ·exact ⟨[], bs s, [], rfl, rfl, by rw [eA_]; rfl, rfl, rfl, by simp, Nat.le_of_eq (fa_ s), rfl⟩
 rintro J hJ n t h ⟨out, left, rest, t0, t4, t5, rfl, rfl, ho, hle, hS⟩
 have fl : (ee_ out).length = out.length := by simp
 have hA := qg_ h0 out rest
 by_cases q0 : left = []
 ·subst q0
  have hR : cX_ dV_ 5 (bs s) [] = some (out, []) := by
   rw [hS]; cases 5 - out.length with
   | zero => rw [cX_]
   | succ f => rw [cX_, if_pos rfl]
  have q0' : (txt ([] : List UInt8) = txt []) = True := by simp
  simp (disch := omega) only [t4, t5, fl, ag_, go_sem, Nat.reduceEqDiff, Nat.reduceLeDiff, Int.reduceLE, Int.reduceToNat, ↓reduceIte]
  refine aa_.call (AW.frozen (cc_ (out.map txt) (by simp; omega)) hA) ?_
  by_cases s1 : eI_ out = true
  case neg =>
   have s1' : bh_ (out.map txt) = false := by rw [ej_]; simpa using s1
   simp (disch := omega) only [t4, s1', ag_, go_sem, Nat.reduceEqDiff, ↓reduceIte]
   rw [ni_ hR (fun q => s1 q.2.1)]
   exact ⟨_, rfl, c3_ (aA_.mknil _ _ _ 1) (Nat.le_refl _) _, _, _, rfl⟩
  have s1' : bh_ (out.map txt) = true := by rw [ej_]; exact s1
  simp (disch := omega) only [t4, s1', go_sem, Nat.reduceEqDiff, ↓reduceIte]
  refine aa_.call (AW.frozen (iJ_ (out.map txt) (by simp; omega)) hA) ?_
  rw [tR_ s1]
  by_cases s2 : cU_ out = bs s
  case neg =>
   have s2' : (txt (cU_ out) = s) = False := by rw [eq_iff_iff, iff_false]; intro e; exact s2 (by rw [← e]; exact (ca_ _).symm)
   simp (disch := omega) only [t0, t4, s2', ag_, go_sem, Nat.reduceEqDiff, reduceCtorEq, ↓reduceIte]
   rw [ni_ hR (fun q => s2 q.2.2)]
   exact ⟨_, rfl, c3_ (aA_.mknil _ _ _ 1) (Nat.le_refl _) _, _, _, rfl⟩
  have s2' : (txt (cU_ out) = s) = True := by rw [s2, eA_]; simp
  simp (disch := omega) only [t0, t4, s2', ag_, go_sem, Nat.reduceEqDiff, reduceCtorEq, ↓reduceIte]
  rw [uY_ hR s1 s2]
  have hz := c3_ (fq_ (base := h0.length) (l := h0.length) (E := 9) (out := out.map txt) (H := h0 ++ ⟨9, 1, ee_ out⟩ :: rest) (by rw [cy_]; rfl) (Nat.le_refl _)) (by omega) (.bool true)
  rw [length_map] at hz
  exact ⟨_, rfl, hz, _, _, rfl⟩
 ·have hpos : 0 < left.length := by cases left with
   | nil => exact absurd rfl q0
   | cons b l => simp
  have q0' : (txt left = txt []) = False := by rw [lP_]; simp [q0]
  by_cases q4 : out.length ≤ 4
  ·have q4' : (out.length : Int) ≤ 4 := by omega
   have e5 : 5 - out.length = (4 - out.length) + 1 := by omega
   rw [e5, n0_ dV_ (4 - out.length) left out q0] at hS
   have hdl : (left.drop 1).length ≤ 1048576 := by rw [length_drop]; omega
   by_cases q1 : left[0] = 1
   ·have q1' : ((left[0].toNat : Int) = 1) = True := by simp [q1]
    simp (disch := omega) only [t4, t5, q0', q4', q1', fl, take_length, ag_, go_sem, Nat.reduceEqDiff, Nat.reduceLeDiff, Int.reduceLE, Int.reduceToNat, ↓reduceIte]
    have hc := fun h => lo_ (left.drop 1) hdl h
    cases hn : nf_ (left.drop 1) with
    | none =>
     rw [hn, iN_] at hc
     rw [fX_ left hpos, if_pos q1, hn] at hS
     refine aa_.call (hc _) ?_
     simp (disch := omega) only [t4, fl, ag_, go_sem, Nat.reduceEqDiff, Nat.reduceLeDiff, ↓reduceIte]
     rw [kM_ (by rw [hS])]
     exact ⟨_, rfl, c3_ (aA_.mknil _ _ _ 1) (Nat.le_refl _) _, _, _, rfl⟩
    | some p =>
     obtain ⟨x, r⟩ := p
     rw [hn, iU_] at hc
     have hlen := ob_ left x r (by rw [fX_ left hpos, if_pos q1, hn])
     rw [fX_ left hpos, if_pos q1, hn] at hS
     refine aa_.call (hc _) ?_
     simp (disch := omega) only [t4, fl, ag_, go_sem, Nat.reduceEqDiff, Nat.reduceLeDiff, ↓reduceIte]
     refine ⟨by omega, by omega, ?_⟩
     try simp (disch := omega) only [t0, t4, t5, q0', q4', fl, ag_, go_sem, Nat.reduceEqDiff, Nat.reduceAdd, Nat.reduceLeDiff, reduceCtorEq, Int.reduceLT, Int.reduceLE, Int.reduceNeg, Int.reduceSub, Int.reduceAdd, Int.reduceToNat, ↓reduceIte]
     exact ⟨5 - (out.length + 1), by omega, hJ _ _ _ ⟨out ++ [x], r, rest ++ [⟨9, 1, [[.val (.string (txt x))]]⟩], by simp [upd, t0], by simp [upd], by simp [upd], by simp [am_], by simp, by simp; omega, by omega, by simpa [Nat.sub_sub] using hS⟩⟩
   ·have q1' : ((left[0].toNat : Int) = 1) = False := by rw [eq_iff_iff, iff_false]; intro e; exact q1 (UInt8.toNat_inj.1 (by have h2 : (1 : UInt8).toNat = 1 := rfl; omega))
    by_cases q2 : left[0] = 2
    ·have q2' : ((left[0].toNat : Int) = 2) = True := by simp [q2]
     simp (disch := omega) only [t4, t5, q0', q4', q1', q2', fl, take_length, ag_, go_sem, Nat.reduceEqDiff, Nat.reduceLeDiff, Int.reduceLE, Int.reduceToNat, ↓reduceIte]
     have hc := fun h => lk_ (left.drop 1) hdl h
     cases hn : cs_ (left.drop 1) [] with
     | none =>
      rw [hn, iN_] at hc
      rw [fX_ left hpos, if_neg q1, if_pos q2, hn] at hS
      refine aa_.call (hc _) ?_
      simp (disch := omega) only [t4, fl, ag_, go_sem, Nat.reduceEqDiff, Nat.reduceLeDiff, ↓reduceIte]
      rw [kM_ (by rw [hS])]
      exact ⟨_, rfl, c3_ (aA_.mknil _ _ _ 1) (Nat.le_refl _) _, _, _, rfl⟩
     | some p =>
      obtain ⟨x, r⟩ := p
      rw [hn, iU_] at hc
      have hlen := ob_ left x r (by rw [fX_ left hpos, if_neg q1, if_pos q2, hn])
      rw [fX_ left hpos, if_neg q1, if_pos q2, hn] at hS
      refine aa_.call (hc _) ?_
      simp (disch := omega) only [t4, fl, ag_, go_sem, Nat.reduceEqDiff, Nat.reduceLeDiff, ↓reduceIte]
      refine ⟨by omega, by omega, ?_⟩
      try simp (disch := omega) only [t0, t4, t5, q0', q4', fl, ag_, go_sem, Nat.reduceEqDiff, Nat.reduceAdd, Nat.reduceLeDiff, reduceCtorEq, Int.reduceLT, Int.reduceLE, Int.reduceNeg, Int.reduceSub, Int.reduceAdd, Int.reduceToNat, ↓reduceIte]
      exact ⟨5 - (out.length + 1), by omega, hJ _ _ _ ⟨out ++ [x], r, rest ++ [⟨9, 1, [[.val (.string (txt x))]]⟩], by simp [upd, t0], by simp [upd], by simp [upd], by simp [am_], by simp, by simp; omega, by omega, by simpa [Nat.sub_sub] using hS⟩⟩
    ·have q2' : ((left[0].toNat : Int) = 2) = False := by rw [eq_iff_iff, iff_false]; intro e; exact q2 (UInt8.toNat_inj.1 (by have h2 : (2 : UInt8).toNat = 2 := rfl; omega))
     rw [fX_ left hpos, if_neg q1, if_neg q2] at hS
     simp (disch := omega) only [t4, t5, q0', q4', q1', q2', fl, take_length, ag_, go_sem, Nat.reduceEqDiff, Nat.reduceLeDiff, Int.reduceLE, Int.reduceToNat, ↓reduceIte]
     rw [kM_ (by rw [hS])]
     exact ⟨_, rfl, c3_ (aA_.mknil _ _ _ 1) (Nat.le_refl _) _, _, _, rfl⟩
  ·have q4' : ¬ (out.length : Int) ≤ 4 := by omega
   have e0 : 5 - out.length = 0 := by omega
   have hR : cX_ dV_ 5 (bs s) [] = some (out, left) := by rw [hS, e0, cX_]
   have s1 : ¬ eI_ out = true := fun q => q4 (ub_ q)
   simp (disch := omega) only [t4, t5, q0', q4', fl, ag_, go_sem, Nat.reduceEqDiff, Nat.reduceLeDiff, Int.reduceLE, Int.reduceToNat, ↓reduceIte]
   refine aa_.call (AW.frozen (cc_ (out.map txt) (by simp; omega)) hA) ?_
   have s1' : bh_ (out.map txt) = false := by rw [ej_]; simpa using s1
   simp (disch := omega) only [t4, s1', ag_, go_sem, Nat.reduceEqDiff, ↓reduceIte]
   rw [ni_ hR (fun q => s1 q.2.1)]
   exact ⟨_, rfl, c3_ (aA_.mknil _ _ _ 1) (Nat.le_refl _) _, _, _, rfl⟩
theorem ir_ (s : ByteArray) (hs : s.size ≤ 1048576) (h : List Row) : aa_ Tryz.prog 180 [.val (.string s)] h (oX_ (dW_ s)) := (kE_ s hs).pure rfl h
theorem Ei_ (q : Bool) (a : Int) : bf_ .shl q (.val (.int .i64 a)) (.val (.int .u64 8)) = some (.val (.int .i64 (IntKind.i64.wrap (a * 256)))) := by
 rw [rq_ _ _ _ _ _ (by decide)]; rfl
theorem or8 (q : Bool) (x b : Nat) (h : b < 256) (hx : x < 72057594037927936) : bf_ .or q (.val (.int .i64 (IntKind.i64.wrap ((IntKind.i64.wrap (x : Int)) * 256)))) (.val (.int .i64 (b : Int))) = some (.val (.int .i64 (IntKind.i64.wrap ((x * 256 + b : Nat) : Int)))) := by
 have h8 : (2 : Int) ^ (min (8 : Int).toNat 64) = 256 := by decide
 have := yD_ x b h (by omega)
 rw [h8] at this
 rw [yb_, this, Nat.mod_eq_of_lt (by omega)]
theorem EG_ (q : Bool) (x b : Nat) (h : b < 256) (hx : x < 72057594037927936) : bf_ .or q (.val (.int .i64 (IntKind.i64.wrap ((x : Int) * 256)))) (.val (.int .i64 (b : Int))) = some (.val (.int .i64 (IntKind.i64.wrap ((x * 256 + b : Nat) : Int)))) := by
 have := or8 q x b h hx
 rwa [aq_ (n := (x : Int)) (by omega) (by omega)] at this
def BG_ : LC :=
 .seq (.ops [.ki 2 0]) (.seq (.ops [.ki 3 0]) (.seq (.seq (.ops [.ki 4 0]) (.block 0 (.loop (.seq (.seq (.ops [.m 5 4, .bk 6 .lss false 5 8]) (.cond (.tmp 6) .skip (.exit 0))) (.seq (.block 1 (.ops [.m 9 3, .s 10 (.bin
 .shl false (.tmp 9) (.const (.int .u64 8))), .m 11 0, .m 12 4, .s 13 (.indexStr (.tmp 11) (.tmp 12)), .s 14 (.convInt .i64 (.tmp 13)), .bb 15 .or false 10 14, .m 3 15])) (.ops [.m 7 4, .bk 8 .add false 7 1, .m 4 8]))))))
 (.seq (.ops [.m 16 3, .m 2 16]) .ret)))
def xL_ : LF := ⟨1, 17, BG_, [.tmp 2]⟩
theorem Av_ : at_ Tryz.prog Tryz.f195 xL_ := ai_
theorem nN_ (l : List UInt8) (hl : l.length = 8) (h : List Row) : aa_ Tryz.prog 195 [.val (.string (txt l))] h (.val (.int .i64 (IntKind.i64.wrap (cr_ 0 l)))) := by
 refine aj_ mixed Tryz.func195 Av_ rfl rfl ?_ h
 simp (disch := omega) only [xL_, BG_, go_sem]
 refine aL_ (fun n t h => ∃ k : Nat, t 0 = .val (.string (txt l)) ∧ t 3 = .val (.int .i64 (IntKind.i64.wrap (cr_ 0 (l.take k)))) ∧ t 4 = .val (.int .i64 k) ∧ h = [] ∧ n = 8 - k ∧ k ≤ 8) 8 ?_ ?_
 ·exact ⟨0, rfl, by rw [take_zero, pC_]; rfl, rfl, rfl, rfl, by omega⟩
 rintro J hJ n t h ⟨k, t0, t3, t4, rfl, rfl, hk⟩
 by_cases hlt : k < 8
 ·have hkl : k < l.length := by omega
  have hkI : (k : Int) < 8 := by omega
  have hb := kB_ l k (by omega)
  have hu := mI_ l[k]
  simp (disch := omega) only [t0, t3, t4, hkI, Ei_, EG_, aq_, go_sem, Nat.reduceEqDiff, reduceCtorEq, ↓reduceIte]
  exact ⟨8 - (k + 1), by omega, hJ _ _ _ ⟨k + 1, by simp [upd, t0], by rw [nX_ l k hkl]; simp [upd], by simp [upd], rfl, rfl, by omega⟩⟩
 ·have hkI : ¬ (k : Int) < 8 := by omega
  simp (disch := omega) only [t3, t4, hkI, go_sem, Nat.reduceEqDiff, ↓reduceIte]
  rw [take_of_length_le (by omega)]
  exact ⟨1, rfl⟩
theorem v5_ (l : List UInt8) (h : 0 < l.length) : dr_ l = if l[0] = 1 ∧ 9 ≤ l.length then (if 1 ≤ cr_ 0 ((l.drop 1).take 8) ∧ cr_ 0 ((l.drop 1).take 8) ≤ 1999999999999999999 then some (b3_ ((cr_ 0 ((l.drop 1).take 8) : Int) - 1000000000000000000), (l.drop 1).drop 8) else none) else if l[0] = 2 then cs_ (l.drop 1) [] else none := by
 cases l with
 | nil => simp at h
 | cons b l =>
  have e : (9 ≤ (b :: l).length) = (8 ≤ l.length) := by simp
  rw [dr_]
  simp only [e, getElem_cons_zero, drop_succ_cons, drop_zero]
theorem qK_ (N : Nat) (h : N < 18446744073709551616) : do_ (IntKind.i64.wrap (N : Int)) 1 1999999999999999999 = decide (1 ≤ N ∧ N ≤ 1999999999999999999) := by
 rw [do_, IntKind.wrap_i64, Bool.eq_iff_iff]
 simp only [Bool.and_eq_true, decide_eq_true_eq]
 omega
def CO_ : LC :=
 .seq (.ops [.s 2 (.mov (.const (.string ⟨#[]⟩))), .s 3 (.mov (.const (.string ⟨#[]⟩))), .s 4 (.mov (.const (.bool false)))]) (.seq (.seq (.ops [.m 8 0, .s 9 (.indexStr (.tmp 8) (.const (.int .i64 0))), .s 10 (.bin .eql
 false (.tmp 9) (.const (.int .u8 1))), .m 11 10, .g 12 11 true (.mov (.tmp 0)), .g 13 11 true (.lenStr (.tmp 12)), .g 14 11 true (.bin .geq false (.tmp 13) (.const (.int .i64 9))), .pf 15 11 14]) (.cond (.tmp 15) (.seq
 (.ops [.m 16 0, .s 17 (.sliceStr (.tmp 16) (some (.const (.int .i64 1))) (some (.const (.int .i64 9)))), .c1 18 195 17, .m 5 18]) (.seq (.seq (.ops [.m 19 5, .s 20 (.call 113 [.tmp 19, .const (.int .i64 1), .const (.int
 .i64 1999999999999999999)]), .nt 21 20]) (.cond (.tmp 21) (.seq (.ops [.s 2 (.mov (.const (.string ⟨#[]⟩))), .s 3 (.mov (.const (.string ⟨#[]⟩))), .s 4 (.mov (.const (.bool false)))]) .ret) .skip)) (.seq (.dops [.m 22 5,
 .bk 23 .sub false 22 1000000000000000000, .c1 24 196 23, .m 25 0, .s 26 (.sliceStr (.tmp 25) (some (.const (.int .i64 9))) none), .m 2 24, .m 3 26, .s 4 (.mov (.const (.bool true)))]) .ret))) .skip)) (.seq (.seq (.ops
 [.m 27 0, .s 28 (.indexStr (.tmp 27) (.const (.int .i64 0))), .s 29 (.bin .neq false (.tmp 28) (.const (.int .u8 2)))]) (.cond (.tmp 29) (.seq (.ops [.s 2 (.mov (.const (.string ⟨#[]⟩))), .s 3 (.mov (.const (.string
 ⟨#[]⟩))), .s 4 (.mov (.const (.bool false)))]) .ret) .skip)) (.seq (.ops [.s 30 (.buildSlice 5 1 (.int .u8 0) 0 []), .m 6 30]) (.seq (.seq (.ops [.ki 7 1]) (.block 0 (.loop (.seq (.seq (.ops [.m 31 7, .bk 32 .add false
 31 1, .m 33 0, .s 34 (.lenStr (.tmp 33)), .bb 35 .lss false 32 34]) (.cond (.tmp 35) .skip (.exit 0))) (.seq (.block 1 (.seq (.seq (.ops [.m 38 0, .m 39 7, .s 40 (.indexStr (.tmp 38) (.tmp 39)), .s 41 (.bin .neq false
 (.tmp 40) (.const (.int .u8 0)))]) (.cond (.tmp 41) (.seq (.ops [.m 42 6, .m 43 0, .m 44 7, .s 45 (.indexStr (.tmp 43) (.tmp 44)), .s 46 (.buildSlice 5 1 (.int .u8 0) 1 [(0, .tmp 45)]), .ap 47 5 1 1 42 46, .m 6 47])
 (.exit 1)) .skip)) (.seq (.seq (.ops [.m 48 0, .m 49 7, .bk 50 .add false 49 1, .s 51 (.indexStr (.tmp 48) (.tmp 50)), .s 52 (.bin .eql false (.tmp 51) (.const (.int .u8 0)))]) (.cond (.tmp 52) (.seq (.dops [.m 53 6, .s
 54 (.toStr (.tmp 53)), .m 55 0, .m 56 7, .bk 57 .add false 56 2, .s 58 (.sliceStr (.tmp 55) (some (.tmp 57)) none), .m 2 54, .m 3 58, .s 4 (.mov (.const (.bool true)))]) .ret) .skip)) (.seq (.seq (.ops [.m 59 0, .m 60 7,
 .bk 61 .add false 60 1, .s 62 (.indexStr (.tmp 59) (.tmp 61)), .s 63 (.bin .neq false (.tmp 62) (.const (.int .u8 255)))]) (.cond (.tmp 63) (.seq (.ops [.s 2 (.mov (.const (.string ⟨#[]⟩))), .s 3 (.mov (.const (.string
 ⟨#[]⟩))), .s 4 (.mov (.const (.bool false)))]) .ret) .skip)) (.seq (.ops [.m 64 6, .s 65 (.buildSlice 5 1 (.int .u8 0) 1 [(0, .const (.int .u8 0))]), .ap 66 5 1 1 64 65, .m 6 66]) (.ops [.m 67 7, .bk 68 .add false 67 1,
 .m 7 68])))))) (.ops [.m 36 7, .bk 37 .add false 36 1, .m 7 37])))))) (.seq (.ops [.s 2 (.mov (.const (.string ⟨#[]⟩))), .s 3 (.mov (.const (.string ⟨#[]⟩))), .s 4 (.mov (.const (.bool false)))]) .ret)))))
def w5_ : LF := ⟨1, 69, CO_, [.tmp 2, .tmp 3, .tmp 4]⟩
theorem zl_ : at_ Tryz.prog Tryz.f161 w5_ := ai_
theorem mY_ (l : List UInt8) (hp : 0 < l.length) (hl : l.length ≤ 1048576) (h : List Row) : aa_ Tryz.prog 161 [.val (.string (txt l))] h (kq_ (dr_ l)) := by
 refine aj_ mixed Tryz.func161 zl_ rfl rfl ?_ h
 rw [v5_ l hp]
 simp (disch := omega) only [w5_, CO_, go_sem, reduceCtorEq, Int.reduceLE, ↓reduceIte]
 by_cases q1 : l[0] = 1
 ·have q1' : ((l[0].toNat : Int) = 1) = True := by simp [q1]
  have q12 : ((l[0].toNat : Int) = 2) = False := by simp [q1]
  have q2n : ¬ l[0] = 2 := by rw [q1]; decide
  by_cases q9 : 9 ≤ l.length
  ·have q9' : (9 : Int) ≤ l.length := by omega
   have e9 : List.drop 1 (List.take 9 l) = (l.drop 1).take 8 := by rw [drop_take]
   have e10 : List.drop 9 l = (l.drop 1).drop 8 := by rw [drop_drop]
   have hN := kc_ (l.drop 1)
   rw [if_pos ⟨q1, q9⟩]
   simp (disch := omega) only [q1', q9', e9, ag_, go_sem, Nat.reduceEqDiff, Nat.reduceLeDiff, reduceCtorEq, Int.reduceLE, Int.reduceToNat, ↓reduceIte]
   refine aa_.call (nN_ _ (by simp; omega) _) ?_
   simp (disch := omega) only [go_sem, ↓reduceIte]
   refine aa_.call (ho_ _ _ _ _) ?_
   rw [qK_ _ hN]
   by_cases qr : 1 ≤ cr_ 0 ((l.drop 1).take 8) ∧ cr_ 0 ((l.drop 1).take 8) ≤ 1999999999999999999
   ·rw [if_pos qr]
    have qr' : decide (1 ≤ cr_ 0 ((l.drop 1).take 8) ∧ cr_ 0 ((l.drop 1).take 8) ≤ 1999999999999999999) = true := by simpa using qr
    simp (disch := omega) only [qr', aq_, take_length, e10, ag_, go_sem, Nat.reduceEqDiff, reduceCtorEq, Int.reduceLE, Int.reduceToNat, ↓reduceIte]
    refine aa_.q (ii_ _ (by omega) (by omega) _) ?_
    exact ⟨2, rfl⟩
   ·rw [if_neg qr]
    have qr' : decide (1 ≤ cr_ 0 ((l.drop 1).take 8) ∧ cr_ 0 ((l.drop 1).take 8) ≤ 1999999999999999999) = false := by simpa using qr
    simp (disch := omega) only [qr', ag_, go_sem, Nat.reduceEqDiff, reduceCtorEq, Int.reduceLE, Int.reduceToNat, ↓reduceIte]
    exact ⟨2, rfl⟩
  ·have q9' : ¬ (9 : Int) ≤ l.length := by omega
   rw [if_neg (fun z => q9 z.2), if_neg q2n]
   simp (disch := omega) only [q1', q9', q12, ag_, go_sem, Nat.reduceEqDiff, Nat.reduceLeDiff, reduceCtorEq, Int.reduceLE, Int.reduceToNat, ↓reduceIte]
   exact ⟨2, rfl⟩
 ·have q1' : ((l[0].toNat : Int) = 1) = False := by rw [eq_iff_iff, iff_false]; intro e; exact q1 (UInt8.toNat_inj.1 (by have h2 : (1 : UInt8).toNat = 1 := rfl; omega))
  rw [if_neg (fun z => q1 z.1)]
  by_cases q2 : l[0] = 2
  case neg =>
   have q2' : ((l[0].toNat : Int) = 2) = False := by rw [eq_iff_iff, iff_false]; intro e; exact q2 (UInt8.toNat_inj.1 (by have h2 : (2 : UInt8).toNat = 2 := rfl; omega))
   rw [if_neg q2]
   simp (disch := omega) only [q1', q2', ag_, go_sem, Nat.reduceEqDiff, Nat.reduceLeDiff, reduceCtorEq, Int.reduceLE, Int.reduceToNat, ↓reduceIte]
   exact ⟨2, rfl⟩
  have q2' : ((l[0].toNat : Int) = 2) = True := by simp [q2]
  rw [if_pos q2]
  simp (disch := omega) only [q1', q2', ag_, go_sem, Nat.reduceEqDiff, Nat.reduceLeDiff, reduceCtorEq, Int.reduceLE, Int.reduceToNat, ↓reduceIte]
  refine aL_ (fun n t h => ∃ (i : Nat) (acc : List UInt8) (rest : List Row), t 0 = .val (.string (txt l)) ∧ t 6 = .own 0 acc.length ∧ t 7 = .val (.int .i64 i) ∧ h = ⟨5, 1, bq_ acc⟩ :: rest ∧ n = l.length + 1 - i ∧ i ≤ l.length ∧ acc.length ≤ i ∧ cs_ (l.drop 1) [] = cs_ (l.drop i) acc) l.length ?_ ?_
  ·exact ⟨1, [], [], rfl, rfl, rfl, rfl, by omega, by omega, by simp, rfl⟩
  rintro J hJ n t h ⟨i, acc, rest, t0, t6, t7, rfl, rfl, hi, hac, hS⟩
  have fl := fR_ acc
  by_cases hlt : i + 1 < l.length
  ·have hlt' : (i : Int) + 1 < l.length := by omega
   have hlt0 : i < l.length := by omega
   have ei : (i : Int) + 1 = ((i + 1 : Nat) : Int) := by omega
   have ei2 : (i : Int) + 2 = ((i + 2 : Nat) : Int) := by omega
   rw [mn_ l acc i hlt] at hS
   by_cases r0 : l[i] = 0
   ·rw [if_pos r0] at hS
    have r0' : ((l[i].toNat : Int) = 0) = True := by simp [r0]
    by_cases r1 : l[i + 1] = 0
    ·rw [if_pos r1] at hS
     have r1' : ((l[i + 1].toNat : Int) = 0) = True := by simp [r1]
     simp (disch := omega) only [t0, t6, t7, ei, ei2, hlt, r0', r1', aq_, fl, hB_, take_length, Option.map_some, go_sem, Nat.reduceEqDiff, reduceCtorEq, ↓reduceIte]
     rw [hS]
     exact ⟨2, rfl⟩
    ·rw [if_neg r1] at hS
     have r1' : ((l[i + 1].toNat : Int) = 0) = False := by rw [eq_iff_iff, iff_false]; intro e; exact r1 (UInt8.toNat_inj.1 (by have h2 : (0 : UInt8).toNat = 0 := rfl; omega))
     by_cases r2 : l[i + 1] = 255
     ·rw [if_pos r2] at hS
      have r2' : ((l[i + 1].toNat : Int) = 255) = True := by simp [r2]
      simp (disch := omega) only [t0, t6, t7, ei, hlt, r0', r1', r2', aq_, fl, go_sem, Nat.reduceEqDiff, Nat.reduceLeDiff, reduceCtorEq, ↓reduceIte]
      refine ⟨by omega, by omega, ?_⟩
      try simp (disch := omega) only [t0, t6, t7, ei, ei2, hlt, hlt0, r0', r1', r2', aq_, fl, go_sem, Nat.reduceEqDiff, Nat.reduceAdd, Nat.reduceLeDiff, reduceCtorEq, Int.reduceLT, Int.reduceLE, Int.reduceNeg, Int.reduceSub, Int.reduceAdd, Int.reduceToNat, ↓reduceIte]
      exact ⟨l.length + 1 - (i + 2), by omega, hJ _ _ _ ⟨i + 2, acc ++ [0], rest ++ [⟨5, 1, bq_ [0]⟩], by simp [upd, t0], by simp [upd], by simp [upd]; try omega, by simp [bq_], rfl, by omega, by simp; omega, hS⟩⟩
     ·rw [if_neg r2] at hS
      have r2' : ((l[i + 1].toNat : Int) = 255) = False := by rw [eq_iff_iff, iff_false]; intro e; exact r2 (UInt8.toNat_inj.1 (by have h2 : (255 : UInt8).toNat = 255 := rfl; omega))
      simp (disch := omega) only [t0, t7, ei, hlt, r0', r1', r2', aq_, go_sem, Nat.reduceEqDiff, reduceCtorEq, ↓reduceIte]
      rw [hS]
      exact ⟨2, rfl⟩
   ·rw [if_neg r0] at hS
    have r0' : ((l[i].toNat : Int) = 0) = False := by rw [eq_iff_iff, iff_false]; intro e; exact r0 (UInt8.toNat_inj.1 (by have h2 : (0 : UInt8).toNat = 0 := rfl; omega))
    simp (disch := omega) only [t0, t6, t7, ei, hlt, r0', aq_, fl, go_sem, Nat.reduceEqDiff, Nat.reduceLeDiff, reduceCtorEq, ↓reduceIte]
    refine ⟨by omega, by omega, ?_⟩
    try simp (disch := omega) only [t0, t6, t7, ei, ei2, hlt, hlt0, r0', aq_, fl, go_sem, Nat.reduceEqDiff, Nat.reduceAdd, Nat.reduceLeDiff, reduceCtorEq, Int.reduceLT, Int.reduceLE, Int.reduceNeg, Int.reduceSub, Int.reduceAdd, Int.reduceToNat, ↓reduceIte]
    exact ⟨l.length + 1 - (i + 1), by omega, hJ _ _ _ ⟨i + 1, acc ++ [l[i]], rest ++ [⟨5, 1, bq_ [l[i]]⟩], by simp [upd, t0], by simp [upd], by simp [upd]; try omega, by simp [bq_], rfl, by omega, by simp; omega, hS⟩⟩
  ·have hlt' : ¬ (i : Int) + 1 < l.length := by omega
   simp (disch := omega) only [t0, t7, hlt', aq_, go_sem, Nat.reduceEqDiff, reduceCtorEq, ↓reduceIte]
   rw [hS, om_ l acc i (by omega)]
   exact ⟨2, rfl⟩
theorem zS_ (l : List UInt8) (i : Nat) (h : i < l.length) : esc (l.drop i) = if l[i] = 0 then 0 :: 255 :: esc (l.drop (i + 1)) else l[i] :: esc (l.drop (i + 1)) := by
 rw [drop_eq_getElem_cons h, esc]
theorem xZ_ (n k : Nat) (h : k < 8) : IntKind.u8.wrap ((n : Int).fdiv (2 ^ min (8 * (7 - (k : Int))).toNat 64)) = ((dq_ n (7 - k)).toNat : Int) := by
 have e : (8 * (7 - (k : Int))).toNat = (8 * ((7 - k : Nat) : Int)).toNat := by omega
 rw [e, pN_ _ _ (by omega), m3_]
theorem nF_ (l : List UInt8) (b : UInt8) : bq_ l ++ [[AV.val (.int .u8 b.toNat)]] = bq_ (l ++ [b]) := by simp [bq_]
def zT_ : LC :=
 .seq (.ops [.s 2 (.mov (.const (.string ⟨#[]⟩)))]) (.seq (.ops [.s 7 (.buildSlice 5 1 (.int .u8 0) 0 []), .m 3 7]) (.seq (.seq (.ops [.m 8 0, .c1 9 221 8]) (.cond (.tmp 9) (.seq (.ops [.m 10 0, .c1 11 222 10, .bk 12 .add
 false 11 1000000000000000000, .m 4 12]) (.seq (.ops [.m 13 3, .s 14 (.buildSlice 5 1 (.int .u8 0) 1 [(0, .const (.int .u8 1))]), .ap 15 5 1 1 13 14, .m 3 15]) (.seq (.seq (.ops [.ki 5 7]) (.block 0 (.loop (.seq (.seq
 (.ops [.m 16 5, .bk 17 .geq false 16 0]) (.cond (.tmp 17) .skip (.exit 0))) (.seq (.block 1 (.ops [.m 20 3, .m 21 4, .m 22 5, .s 23 (.bin .mul false (.const (.int .i64 8)) (.tmp 22)), .bb 24 .shr false 21 23, .s 25
 (.convInt .u8 (.tmp 24)), .s 26 (.buildSlice 5 1 (.int .u8 0) 1 [(0, .tmp 25)]), .ap 27 5 1 1 20 26, .m 3 27])) (.ops [.m 18 5, .bk 19 .sub false 18 1, .m 5 19])))))) (.seq (.ops [.m 28 3, .s 29 (.toStr (.tmp 28)), .m 2
 29]) .ret)))) .skip)) (.seq (.ops [.m 30 3, .s 31 (.buildSlice 5 1 (.int .u8 0) 1 [(0, .const (.int .u8 2))]), .ap 32 5 1 1 30 31, .m 3 32]) (.seq (.seq (.ops [.ki 6 0]) (.block 2 (.loop (.seq (.seq (.ops [.m 33 6, .m 34
 0, .s 35 (.lenStr (.tmp 34)), .bb 36 .lss false 33 35]) (.cond (.tmp 36) .skip (.exit 2))) (.seq (.block 3 (.seq (.ops [.m 39 3, .m 40 0, .m 41 6, .s 42 (.indexStr (.tmp 40) (.tmp 41)), .s 43 (.buildSlice 5 1 (.int .u8
 0) 1 [(0, .tmp 42)]), .ap 44 5 1 1 39 43, .m 3 44]) (.seq (.ops [.m 45 0, .m 46 6, .s 47 (.indexStr (.tmp 45) (.tmp 46)), .s 48 (.bin .eql false (.tmp 47) (.const (.int .u8 0)))]) (.cond (.tmp 48) (.ops [.m 49 3, .s 50
 (.buildSlice 5 1 (.int .u8 0) 1 [(0, .const (.int .u8 255))]), .ap 51 5 1 1 49 50, .m 3 51]) .skip)))) (.ops [.m 37 6, .bk 38 .add false 37 1, .m 6 38])))))) (.seq (.ops [.m 52 3, .s 53 (.buildSlice 5 1 (.int .u8 0) 2
 [(0, .const (.int .u8 0)), (1, .const (.int .u8 0))]), .ap 54 5 1 1 52 53, .s 55 (.toStr (.tmp 54)), .m 2 55]) .ret)))))
def xB_ : LF := ⟨1, 56, zT_, [.tmp 2]⟩
theorem Bu_ : at_ Tryz.prog Tryz.f197 xB_ := ai_
theorem nn_ (l : List UInt8) (hl : l.length ≤ 1048576) (h : List Row) : aa_ Tryz.prog 197 [.val (.string (txt l))] h (.val (.string (txt (cw_ l)))) := by
 refine aj_ mixed Tryz.func197 Bu_ rfl rfl ?_ h
 simp (disch := omega) only [xB_, zT_, go_sem, reduceCtorEq, ↓reduceIte]
 refine aa_.call (hS_ l (by omega) _) ?_
 by_cases q : b4_ l = true
 ·simp (disch := omega) only [q, go_sem, reduceCtorEq, ↓reduceIte]
  refine aa_.call (hr_ l (by omega) _) ?_
  have hn := eF_ l
  have hq := it_ l
  have hq2 := iv_ l
  have hkey : cw_ l = 1 :: be8 (di_ l) := by unfold cw_; rw [if_pos q]
  simp (disch := omega) only [aq_, ← hq, go_sem, Nat.reduceEqDiff, Nat.reduceLeDiff, ↓reduceIte]
  refine ⟨by omega, ?_⟩
  try simp (disch := omega) only [aq_, ← hq, go_sem, Nat.reduceEqDiff, Nat.reduceAdd, Nat.reduceLeDiff, reduceCtorEq, Int.reduceLT, Int.reduceLE, Int.reduceNeg, Int.reduceSub, Int.reduceAdd, Int.reduceToNat, ↓reduceIte]
  refine aL_ (fun n t h => ∃ (k : Nat) (rest : List Row), t 3 = .own 0 (1 + k) ∧ t 4 = .val (.int .i64 (di_ l)) ∧ t 5 = .val (.int .i64 (7 - k)) ∧ h = ⟨5, 1, bq_ (1 :: (be8 (di_ l)).take k)⟩ :: rest ∧ n = 8 - k ∧ k ≤ 8) 8 ?_ ?_
  ·exact ⟨0, _, rfl, rfl, rfl, rfl, rfl, by omega⟩
  rintro J hJ n t h ⟨k, rest, t3, t4, t5, rfl, rfl, hk⟩
  have fl : (bq_ (1 :: (be8 (di_ l)).take k)).length = 1 + k := by
   rw [fR_, lc_, length_take, d8_]; omega
  by_cases hlt : k < 8
  ·have hg : (0 : Int) ≤ 7 - k := by omega
   simp (disch := omega) only [t3, t4, t5, hg, fl, nj_, ng_, aq_, xZ_, go_sem, Nat.reduceEqDiff, Nat.reduceLeDiff, ↓reduceIte]
   refine ⟨by omega, by omega, ?_⟩
   try simp (disch := omega) only [t3, t4, t5, hg, fl, nj_, ng_, aq_, xZ_, go_sem, Nat.reduceEqDiff, Nat.reduceAdd, Nat.reduceLeDiff, reduceCtorEq, Int.reduceLT, Int.reduceLE, Int.reduceNeg, Int.reduceSub, Int.reduceAdd, Int.reduceToNat, ↓reduceIte]
   refine ⟨8 - (k + 1), by omega, hJ _ _ _ ⟨k + 1, rest ++ [⟨5, 1, bq_ [dq_ (di_ l) (7 - k)]⟩], by simp [upd]; try omega, by simp [upd, t4], by simp [upd]; try omega, ?_, rfl, by omega⟩⟩
   rw [nF_, cons_append, ← o4_ _ _ hlt]
   rfl
  ·have hg : ¬ (0 : Int) ≤ 7 - k := by omega
   simp (disch := omega) only [t3, t5, hg, fl, hB_, Option.map_some, go_sem, Nat.reduceEqDiff, ↓reduceIte]
   rw [rz_ _ _ (by omega), ← hkey]
   exact ⟨1, rfl⟩
 ·have q' : b4_ l = false := by simpa using q
  have hkey : cw_ l = 2 :: (esc l ++ [0, 0]) := by unfold cw_; rw [if_neg q]
  simp (disch := omega) only [q', go_sem, Nat.reduceEqDiff, Nat.reduceLeDiff, ↓reduceIte]
  refine ⟨by omega, ?_⟩
  try simp (disch := omega) only [go_sem, Nat.reduceEqDiff, Nat.reduceAdd, Nat.reduceLeDiff, reduceCtorEq, Int.reduceLT, Int.reduceLE, Int.reduceNeg, Int.reduceSub, Int.reduceAdd, Int.reduceToNat, ↓reduceIte]
  refine aL_ (fun n t h => ∃ (i : Nat) (out : List UInt8) (rest : List Row), t 0 = .val (.string (txt l)) ∧ t 3 = .own 0 out.length ∧ t 6 = .val (.int .i64 i) ∧ h = ⟨5, 1, bq_ out⟩ :: rest ∧ n = l.length - i ∧ i ≤ l.length ∧ out.length ≤ 1 + 2 * i ∧ 2 :: esc l = out ++ esc (l.drop i)) l.length ?_ ?_
  ·exact ⟨0, [2], _, rfl, rfl, rfl, rfl, rfl, by omega, by simp, rfl⟩
  rintro J hJ n t h ⟨i, out, rest, t0, t3, t6, rfl, rfl, hi, hol, hS⟩
  have fl := fR_ out
  by_cases hlt : i < l.length
  ·have hltI : (i : Int) < l.length := by omega
   rw [zS_ l i hlt] at hS
   by_cases r0 : l[i] = 0
   ·rw [if_pos r0] at hS
    have r0' : ((l[i].toNat : Int) = 0) = True := by simp [r0]
    simp (disch := omega) only [t0, t3, t6, hltI, r0', fl, aq_, go_sem, Nat.reduceEqDiff, Nat.reduceLeDiff, reduceCtorEq, ↓reduceIte]
    refine ⟨by omega, by omega, ?_⟩
    refine ⟨by omega, by omega, ?_⟩
    refine ⟨l.length - (i + 1), by omega, hJ _ _ _ ⟨i + 1, out ++ [0, 255], rest ++ [⟨5, 1, bq_ [l[i]]⟩, ⟨5, 1, bq_ [255]⟩], by simp [upd, t0], by simp [upd], by simp [upd]; try omega, by simp [bq_, r0], rfl, by omega, by simp; omega, by rw [hS]; simp⟩⟩
   ·rw [if_neg r0] at hS
    have r0' : ((l[i].toNat : Int) = 0) = False := by rw [eq_iff_iff, iff_false]; intro e; exact r0 (UInt8.toNat_inj.1 (by have h2 : (0 : UInt8).toNat = 0 := rfl; omega))
    simp (disch := omega) only [t0, t3, t6, hltI, r0', fl, aq_, go_sem, Nat.reduceEqDiff, Nat.reduceLeDiff, reduceCtorEq, ↓reduceIte]
    refine ⟨by omega, by omega, ?_⟩
    try simp (disch := omega) only [t0, t3, t6, hltI, hlt, r0', fl, aq_, go_sem, Nat.reduceEqDiff, Nat.reduceAdd, Nat.reduceLeDiff, reduceCtorEq, Int.reduceLT, Int.reduceLE, Int.reduceNeg, Int.reduceSub, Int.reduceAdd, Int.reduceToNat, ↓reduceIte]
    exact ⟨l.length - (i + 1), by omega, hJ _ _ _ ⟨i + 1, out ++ [l[i]], rest ++ [⟨5, 1, bq_ [l[i]]⟩], by simp [upd, t0], by simp [upd], by simp [upd]; try omega, by simp [bq_], rfl, by omega, by simp; omega, by rw [hS]; simp⟩⟩
  ·have hltI : ¬ (i : Int) < l.length := by omega
   rw [drop_eq_nil_of_le (by omega), esc, append_nil] at hS
   simp (disch := omega) only [t0, t3, t6, hltI, fl, go_sem, Nat.reduceEqDiff, Nat.reduceAdd, Nat.reduceLeDiff, reduceCtorEq, ↓reduceIte]
   refine ⟨by omega, by omega, ?_⟩
   have e2 : bq_ out ++ [[AV.val (.int .u8 0)], [AV.val (.int .u8 0)]] = bq_ (out ++ [0, 0]) := by simp [bq_]
   simp (disch := omega) only [e2, hB_, Option.map_some, go_sem]
   rw [hkey, ← hS]
   exact ⟨1, rfl⟩
def AP_ : LC :=
 .seq (.ops [.s 2 (.mov (.const (.string ⟨#[]⟩)))]) (.seq (.ops [.s 3 (.mov (.const (.string ⟨#[]⟩)))]) (.seq (.seq (.ops [.ki 4 0]) (.block 0 (.loop (.seq (.seq (.ops [.m 5 4, .m 6 0, .ll 7 6, .bb 8 .lss false 5 7])
 (.cond (.tmp 8) .skip (.exit 0))) (.seq (.block 1 (.ops [.m 11 3, .m 12 0, .m 13 4, .ia 14 1 12 13, .ln 15 14, .c1 16 197 15, .bb 17 .add false 11 16, .m 3 17])) (.ops [.m 9 4, .bk 10 .add false 9 1, .m 4 10])))))) (.seq
 (.ops [.m 18 3, .m 2 18]) .ret)))
def xm_ : LF := ⟨1, 19, AP_, [.tmp 2]⟩
theorem A6_ : at_ Tryz.prog Tryz.f163 xm_ := ai_
theorem gZ_ (xs : List ByteArray) (hx : bh_ xs = true) (h : List Row) : aa_ Tryz.prog 163 [.list 0 1 (xs.map am_)] h (.val (.string (txt (cU_ (bss xs))))) := by
 refine aj_ mixed Tryz.func163 A6_ rfl rfl ?_ h
 obtain ⟨h4, hm⟩ := eH_ hx
 simp (disch := omega) only [xm_, AP_, go_sem]
 refine aL_ (fun n t h => ∃ k : Nat, t 0 = .list 0 1 (xs.map am_) ∧ t 3 = .val (.string (txt (cU_ (bss (xs.take k))))) ∧ t 4 = .val (.int .i64 k) ∧ h = [] ∧ n = xs.length - k ∧ k ≤ xs.length) xs.length ⟨0, rfl, rfl, rfl, rfl, rfl, Nat.zero_le _⟩ ?_
 rintro J hJ n t h ⟨k, t0, t3, t4, rfl, rfl, hk⟩
 by_cases hlt : k < xs.length
 ·have hltI : (k : Int) < xs.length := by omega
  have hl1 := jv_ (xs.take k) (fun x hx' => (hm x (mem_of_mem_take hx')).2)
  have hl2 : (xs.take k).length ≤ 4 := by rw [length_take]; omega
  have hl3 := j6_ (bs xs[k])
  have hl4 := hm _ (getElem_mem hlt)
  have hl5 : (bs xs[k]).length = xs[k].size := fa_ _
  have hc := fun h => nn_ (bs xs[k]) (by omega) h
  rw [eA_] at hc
  have hadd : (cU_ (bss (xs.take k))).length + (cw_ (bs xs[k])).length ≤ 9223372036854775807 := by omega
  simp (disch := omega) only [t0, t3, t4, hltI, go_sem, Nat.reduceEqDiff, reduceCtorEq, ↓reduceIte]
  refine aa_.call (hc _) ?_
  simp (disch := omega) only [t4, jY_ _ _ _ hadd, aq_, go_sem, Nat.reduceEqDiff, ↓reduceIte]
  refine ⟨xs.length - (k + 1), by omega, hJ _ _ _ ⟨k + 1, by simp [upd, t0], ?_, by simp [upd], rfl, rfl, by omega⟩⟩
  rw [take_succ_eq_append_getElem hlt, bss, bss, map_append, qf_]
  simp [upd, cU_]
 ·have hltI : ¬ (k : Int) < xs.length := by omega
  simp (disch := omega) only [t0, t3, t4, hltI, go_sem, Nat.reduceEqDiff, reduceCtorEq, ↓reduceIte]
  rw [take_of_length_le (by omega)]
  exact ⟨1, rfl⟩
theorem t9_ {s : ByteArray} (h : cX_ dr_ 5 (bs s) [] = none) : dW_ s = ([], false) := by
 rw [dW_, kH_, f1_, h]
theorem nx_ {s : ByteArray} {out : List (List UInt8)} {left : List UInt8} (h : cX_ dr_ 5 (bs s) [] = some (out, left)) (q : ¬ (left = [] ∧ eI_ out = true ∧ cU_ out = bs s)) : dW_ s = ([], false) := by
 rw [dW_, kH_, f1_, h]; simp only; rw [if_neg q]
theorem uW_ {s : ByteArray} {out : List (List UInt8)} (h : cX_ dr_ 5 (bs s) [] = some (out, [])) (h2 : eI_ out = true) (h3 : cU_ out = bs s) : dW_ s = (out.map txt, true) := by
 rw [dW_, kH_]; simp [f1_, h, h2, h3]
def CT_ : LC :=
 .seq (.ops [.s 2 (.mov (.const (.slice none 0 0))), .s 3 (.mov (.const (.bool false)))]) (.seq (.ops [.s 9 (.buildSlice 9 1 (.string ⟨#[]⟩) 0 []), .m 4 9]) (.seq (.ops [.m 10 0, .m 5 10]) (.seq (.block 0 (.loop (.seq
 (.seq (.ops [.m 11 5, .s 12 (.bin .neq false (.tmp 11) (.const (.string ⟨#[]⟩))), .m 13 12, .g 14 13 true (.mov (.tmp 4)), .g 15 13 true (.lenSl (.tmp 14)), .g 16 13 true (.bin .leq false (.tmp 15) (.const (.int .i64
 4))), .pf 17 13 16]) (.cond (.tmp 17) .skip (.exit 0))) (.block 1 (.seq (.ops [.m 19 5, .c1 20 161 19, .m 18 20, .ex 21 18 0, .ex 22 18 1, .ex 23 18 2, .m 6 21, .m 7 22, .m 8 23]) (.seq (.seq (.ops [.m 24 8, .nt 25 24])
 (.cond (.tmp 25) (.seq (.ops [.s 26 (.buildSlice 9 1 (.string ⟨#[]⟩) 0 []), .m 2 26, .s 3 (.mov (.const (.bool false)))]) .ret) .skip)) (.seq (.ops [.m 27 4, .m 28 6, .s 29 (.buildSlice 9 1 (.string ⟨#[]⟩) 1 [(0, .tmp
 28)]), .ap 30 9 1 16 27 29, .m 4 30]) (.ops [.m 31 7, .m 5 31])))))))) (.seq (.seq (.ops [.m 32 5, .s 33 (.bin .neq false (.tmp 32) (.const (.string ⟨#[]⟩))), .m 34 33, .g 35 34 false (.mov (.tmp 4)), .g 36 34 false
 (.call 162 [.tmp 35]), .g 37 34 false (.un .not (.tmp 36)), .pt 38 34 37, .m 39 38, .g 40 39 false (.mov (.tmp 4)), .g 41 39 false (.call 163 [.tmp 40]), .g 42 39 false (.mov (.tmp 0)), .g 43 39 false (.bin .neq false
 (.tmp 41) (.tmp 42)), .pt 44 39 43]) (.cond (.tmp 44) (.seq (.ops [.s 45 (.buildSlice 9 1 (.string ⟨#[]⟩) 0 []), .m 2 45, .s 3 (.mov (.const (.bool false)))]) .ret) .skip)) (.seq (.ops [.m 46 4, .m 2 46, .s 3 (.mov
 (.const (.bool true)))]) .ret)))))
def w1_ : LF := ⟨1, 47, CT_, [.tmp 2, .tmp 3]⟩
theorem Df_ : at_ Tryz.prog Tryz.f124 w1_ := ai_
theorem k2_ (s : ByteArray) (hs : s.size ≤ 1048576) : aP_ Tryz.prog 124 [.val (.string s)] (oX_ (dW_ s)) (fun a => ∃ b q, a = .tup [b, .val (.bool q)]) := by
 refine da_ mixed Tryz.func124 Df_ rfl (fun h0 => ?_)
 have hbl := fa_ s
 simp (disch := omega) only [w1_, CT_, go_sem, reduceCtorEq, ↓reduceIte]
 refine aL_ (fun n t h => ∃ (out : List (List UInt8)) (left : List UInt8) (rest : List Row), t 0 = .val (.string s) ∧ t 4 = .own h0.length out.length ∧ t 5 = .val (.string (txt left)) ∧ h = h0 ++ ⟨9, 1, ee_ out⟩ :: rest ∧ n = 5 - out.length ∧ out.length ≤ 5 ∧ left.length ≤ s.size ∧ cX_ dr_ 5 (bs s) [] = cX_ dr_ (5 - out.length) left out) 5 ?_ ?_
 ·exact ⟨[], bs s, [], rfl, rfl, by rw [eA_]; rfl, rfl, rfl, by simp, Nat.le_of_eq (fa_ s), rfl⟩
 rintro J hJ n t h ⟨out, left, rest, t0, t4, t5, rfl, rfl, ho, hle, hS⟩
 have fl : (ee_ out).length = out.length := by simp
 have hA := qg_ h0 out rest
 by_cases q0 : left = []
 ·subst q0
  have hR : cX_ dr_ 5 (bs s) [] = some (out, []) := by
   rw [hS]; cases 5 - out.length with
   | zero => rw [cX_]
   | succ f => rw [cX_, if_pos rfl]
  have q0' : (txt ([] : List UInt8) = txt []) = True := by simp
  simp (disch := omega) only [t4, t5, ag_, go_sem, Nat.reduceEqDiff, ↓reduceIte]
  refine aa_.call (AW.frozen (d5_ (out.map txt) (by simp; omega)) hA) ?_
  by_cases s1 : eI_ out = true
  case neg =>
   have s1' : bh_ (out.map txt) = false := by rw [ej_]; simpa using s1
   simp (disch := omega) only [t4, s1', ag_, go_sem, Nat.reduceEqDiff, ↓reduceIte]
   rw [nx_ hR (fun q => s1 q.2.1)]
   exact ⟨_, rfl, c3_ (fq_ (out := []) (E := 9) (by first | (rw [b8_]; rfl) | (rw [b8_]; simp)) (by omega)) (by omega) _, _, _, rfl⟩
  have s1' : bh_ (out.map txt) = true := by rw [ej_]; exact s1
  simp (disch := omega) only [t4, s1', go_sem, Nat.reduceEqDiff, ↓reduceIte]
  refine aa_.call (AW.frozen (gZ_ (out.map txt) s1') hA) ?_
  rw [p8_]
  by_cases s2 : cU_ out = bs s
  case neg =>
   have s2' : (txt (cU_ out) = s) = False := by rw [eq_iff_iff, iff_false]; intro e; exact s2 (by rw [← e]; exact (ca_ _).symm)
   simp (disch := omega) only [t0, t4, s2', ag_, go_sem, Nat.reduceEqDiff, reduceCtorEq, ↓reduceIte]
   rw [nx_ hR (fun q => s2 q.2.2)]
   exact ⟨_, rfl, c3_ (fq_ (out := []) (E := 9) (by first | (rw [b8_]; rfl) | (rw [b8_]; simp)) (by omega)) (by omega) _, _, _, rfl⟩
  have s2' : (txt (cU_ out) = s) = True := by rw [s2, eA_]; simp
  simp (disch := omega) only [t0, t4, s2', ag_, go_sem, Nat.reduceEqDiff, reduceCtorEq, ↓reduceIte]
  rw [uW_ hR s1 s2]
  have hz := c3_ (fq_ (base := h0.length) (l := h0.length) (E := 9) (out := out.map txt) (H := h0 ++ ⟨9, 1, ee_ out⟩ :: rest) (by rw [cy_]; rfl) (Nat.le_refl _)) (by omega) (.bool true)
  rw [List.length_map] at hz
  exact ⟨_, rfl, hz, _, _, rfl⟩
 ·have hpos : 0 < left.length := by cases left with
   | nil => exact absurd rfl q0
   | cons b l => simp
  have q0' : (txt left = txt []) = False := by rw [lP_]; simp [q0]
  by_cases q4 : out.length ≤ 4
  ·have q4' : (out.length : Int) ≤ 4 := by omega
   have e5 : 5 - out.length = (4 - out.length) + 1 := by omega
   rw [e5, n0_ dr_ (4 - out.length) left out q0] at hS
   simp (disch := omega) only [t4, t5, q0', q4', fl, ag_, go_sem, Nat.reduceEqDiff, ↓reduceIte]
   have hc := fun h => mY_ left hpos (by omega) h
   cases hn : dr_ left with
   | none =>
    rw [hn, iN_] at hc
    rw [hn] at hS
    refine aa_.call (hc _) ?_
    simp (disch := omega) only [t4, fl, ag_, go_sem, Nat.reduceEqDiff, Nat.reduceLeDiff, ↓reduceIte]
    rw [t9_ (by rw [hS])]
    exact ⟨_, rfl, c3_ (fq_ (out := []) (E := 9) (by first | (rw [b8_]; rfl) | (rw [b8_]; simp)) (by omega)) (by omega) _, _, _, rfl⟩
   | some p =>
    obtain ⟨x, r⟩ := p
    rw [hn, iU_] at hc
    have hlen := tW_ left x r hn
    rw [hn] at hS
    refine aa_.call (hc _) ?_
    simp (disch := omega) only [t4, fl, ag_, go_sem, Nat.reduceEqDiff, Nat.reduceLeDiff, ↓reduceIte]
    refine ⟨by omega, by omega, ?_⟩
    try simp (disch := omega) only [t0, t4, t5, q0', q4', fl, ag_, go_sem, Nat.reduceEqDiff, Nat.reduceAdd, Nat.reduceLeDiff, reduceCtorEq, Int.reduceLT, Int.reduceLE, Int.reduceNeg, Int.reduceSub, Int.reduceAdd, Int.reduceToNat, ↓reduceIte]
    exact ⟨5 - (out.length + 1), by omega, hJ _ _ _ ⟨out ++ [x], r, rest ++ [⟨9, 1, [[.val (.string (txt x))]]⟩], by simp [upd, t0], by simp [upd], by simp [upd], by simp [am_], by simp, by simp; omega, by omega, by simpa [Nat.sub_sub] using hS⟩⟩
  ·have q4' : ¬ (out.length : Int) ≤ 4 := by omega
   have e0 : 5 - out.length = 0 := by omega
   have hR : cX_ dr_ 5 (bs s) [] = some (out, left) := by rw [hS, e0, cX_]
   simp (disch := omega) only [t4, t5, q0', q4', fl, ag_, go_sem, Nat.reduceEqDiff, ↓reduceIte]
   rw [nx_ hR (fun q => q0 q.1)]
   exact ⟨_, rfl, c3_ (fq_ (out := []) (E := 9) (by first | (rw [b8_]; rfl) | (rw [b8_]; simp)) (by omega)) (by omega) _, _, _, rfl⟩
theorem iC_ (s : ByteArray) (hs : s.size ≤ 1048576) (h : List Row) : aa_ Tryz.prog 124 [.val (.string s)] h (oX_ (dW_ s)) := (k2_ s hs).pure rfl h
def ew_ (n : Int) : Bool := decide (n = 0) || decide (n = 1) || decide (n = 10) || decide (n = 11)
def BI_ : LC :=
 .seq (.ops [.s 2 (.mov (.const (.bool false)))]) (.seq (.ops [.m 3 0, .bk 4 .eql false 3 0, .m 5 4, .g 6 5 false (.mov (.tmp 0)), .g 7 5 false (.bin .eql false (.tmp 6) (.const (.int .i64 1))), .pt 8 5 7, .m 9 8, .g 10 9
 false (.mov (.tmp 0)), .g 11 9 false (.bin .eql false (.tmp 10) (.const (.int .i64 10))), .pt 12 9 11, .m 13 12, .g 14 13 false (.mov (.tmp 0)), .g 15 13 false (.bin .eql false (.tmp 14) (.const (.int .i64 11))), .pt 16
 13 15, .m 2 16]) .ret)
def wR_ : LF := ⟨1, 17, BI_, [.tmp 2]⟩
theorem zn_ : at_ Tryz.prog Tryz.f177 wR_ := ai_
theorem eY_ (n : Int)  (h : List Row) : aa_ Tryz.prog 177 [.val (.int .i64 n)] h (.val (.bool (ew_ n))) := by
 refine aj_ mixed Tryz.func177 zn_ rfl rfl ?_ h
 simp (disch := omega) only [wR_, BI_, go_sem, reduceCtorEq, ↓reduceIte]
 repeat' (first
  | exact af_ _ _
  | (refine ae_ ?_; simp [ew_, *]; done)
  | simp (disch := omega) only [go_sem, Nat.reduceEqDiff, reduceCtorEq, ↓reduceIte]
  | ((first | (apply aS_; assumption) | (apply aT_; assumption) | (apply a8_; assumption) | (apply a9_; assumption)); intro hb; try simp only [hb])
  | ((first | (apply aF_; assumption) | (apply aE_; assumption) | (apply aN_; assumption) | (apply aO_; assumption)); intro hb; try simp only [hb])
  | ((first | apply az_ | apply aC_ | apply ak_ | apply an_) <;> intro hb <;> (try simp only [hb]) <;> (first | have hp := aV_ hb | have hp := aU_ hb | have hp := aW_ hb | have hp := aX_ hb | skip)))
def AR_ : LC :=
 .seq (.ops [.s 2 (.mov (.const (.bool false)))]) (.seq (.ops [.m 3 0, .bk 4 .eql false 3 0, .m 5 4, .g 6 5 false (.mov (.tmp 0)), .g 7 5 false (.bin .eql false (.tmp 6) (.const (.int .i64 1))), .pt 8 5 7, .m 9 8, .g 10 9
 false (.mov (.tmp 0)), .g 11 9 false (.bin .eql false (.tmp 10) (.const (.int .i64 10))), .pt 12 9 11, .m 13 12, .g 14 13 false (.mov (.tmp 0)), .g 15 13 false (.bin .eql false (.tmp 14) (.const (.int .i64 11))), .pt 16
 13 15, .m 2 16]) .ret)
def wU_ : LF := ⟨1, 17, AR_, [.tmp 2]⟩
theorem CR_ : at_ Tryz.prog Tryz.f122 wU_ := ai_
theorem eZ_ (n : Int)  (h : List Row) : aa_ Tryz.prog 122 [.val (.int .i64 n)] h (.val (.bool (ew_ n))) := by
 refine aj_ mixed Tryz.func122 CR_ rfl rfl ?_ h
 simp (disch := omega) only [wU_, AR_, go_sem, reduceCtorEq, ↓reduceIte]
 repeat' (first
  | exact af_ _ _
  | (refine ae_ ?_; simp [ew_, *]; done)
  | simp (disch := omega) only [go_sem, Nat.reduceEqDiff, reduceCtorEq, ↓reduceIte]
  | ((first | (apply aS_; assumption) | (apply aT_; assumption) | (apply a8_; assumption) | (apply a9_; assumption)); intro hb; try simp only [hb])
  | ((first | (apply aF_; assumption) | (apply aE_; assumption) | (apply aN_; assumption) | (apply aO_; assumption)); intro hb; try simp only [hb])
  | ((first | apply az_ | apply aC_ | apply ak_ | apply an_) <;> intro hb <;> (try simp only [hb]) <;> (first | have hp := aV_ hb | have hp := aU_ hb | have hp := aW_ hb | have hp := aX_ hb | skip)))
def fo_ (s : ByteArray) : Bool := decide (64 < (s.size : Int))
def De_ : LC :=
 .seq (.ops [.s 2 (.mov (.const (.bool false)))]) (.seq (.ops [.m 3 0, .s 4 (.lenStr (.tmp 3)), .bk 5 .gtr false 4 64, .m 2 5]) .ret)
def w6_ : LF := ⟨1, 6, De_, [.tmp 2]⟩
theorem zX_ : at_ Tryz.prog Tryz.f206 w6_ := ai_
theorem ix_ (s : ByteArray)  (h : List Row) : aa_ Tryz.prog 206 [.val (.string s)] h (.val (.bool (fo_ s))) := by
 refine aj_ mixed Tryz.func206 zX_ rfl rfl ?_ h
 simp (disch := omega) only [w6_, De_, go_sem, reduceCtorEq, ↓reduceIte]
 repeat' (first
  | exact af_ _ _
  | (refine ae_ ?_; first | rfl | (simp only [fo_, *, Bool.and_true, Bool.true_and, Bool.and_false, Bool.false_and, Bool.or_true, Bool.true_or, Bool.or_false, Bool.false_or, Bool.not_true, Bool.not_false, decide_true, decide_false, Bool.and_self, Bool.or_self]; done) | (simp [fo_, *]; done))
  | simp (disch := omega) only [go_sem, Nat.reduceEqDiff, Nat.reduceAdd, Nat.reduceLeDiff, reduceCtorEq, Int.reduceLT, Int.reduceLE, Int.reduceNeg, Int.reduceSub, Int.reduceAdd, Int.reduceToNat, ↓reduceIte]
  | ((first | (apply aF_; assumption) | (apply aE_; assumption) | (apply aN_; assumption) | (apply aO_; assumption)); intro hb; try simp only [hb])
  | ((first | apply ak_ | apply an_) <;> intro hb <;> (try simp only [hb]) <;> (first | have hp := aV_ hb | have hp := aU_ hb | have hp := aW_ hb | have hp := aX_ hb | skip)))
def zx_ : LC :=
 .seq (.ops [.s 2 (.mov (.const (.bool false)))]) (.seq (.ops [.m 3 0, .s 4 (.call 181 [.tmp 3, .func 206]), .m 2 4]) .ret)
def wn_ : LF := ⟨1, 5, zx_, [.tmp 2]⟩
theorem CS_ : at_ Tryz.prog Tryz.f178 wn_ := ai_
theorem o5_ (xs : List ByteArray) (hx : xs.length ≤ 1048576) (h : List Row) : aa_ Tryz.prog 178 [.list 0 1 (xs.map am_)] h (.val (.bool (xs.any fo_))) := by
 refine aj_ mixed Tryz.func178 CS_ rfl rfl ?_ h
 simp (disch := omega) only [wn_, zx_, go_sem, reduceCtorEq, ↓reduceIte]
 repeat' (first
  | exact af_ _ _
  | simp (disch := omega) only [go_sem, ↓reduceIte]
  | (refine aa_.call (cu_ _ fo_ 206 hx (by kernel_rfl) (fun x _ h => ix_ x h) _) ?_)
  | (refine aa_.q (cu_ _ fo_ 206 hx (by kernel_rfl) (fun x _ h => ix_ x h) _) ?_)
  | ((first | (apply aF_; assumption) | (apply aE_; assumption) | (apply aN_; assumption) | (apply aO_; assumption)); intro hb; try simp only [hb])
  | ((first | apply ak_ | apply an_) <;> intro hb <;> (try simp only [hb]) <;> (first | have hp := aV_ hb | have hp := aU_ hb | have hp := aW_ hb | have hp := aX_ hb | skip)))
theorem gM_ (s : ByteArray) {H : List Row} (hl : H[1]? = some ⟨9, 1, [[.val (.string s)]]⟩) : aa_ Tryz.prog 178 [.own 1 1] H (.val (.bool (fo_ s))) := by
 have : aa_ Tryz.prog 178 [.own 1 1] H (.val (.bool ([s].any fo_))) := AW.frozen (n := 2) (o5_ [s] (by simp)) (pn_ (lh_ (n := 0) hl rfl (by simp [AV.flat])))
 simpa using this
def bi_ (e : ab_) : Bool :=
 if e.Kind = 1 then ew_ e.N && !fo_ e.Value && (decide (e.N.tmod 10 = 1) || decide (e.Value = txt []))
 else if e.Kind = 4 then ew_ e.N && decide (e.Value = txt [])
 else if e.Kind = 5 then (decide (e.N = 1) || decide (e.N = -1)) && (decide (e.Value = txt []) || bR_ e.Value)
 else if e.Kind = 6 then decide (e.N = 1) && (dW_ e.Value).2 || decide (e.N = 0) && decide (e.Value = txt [])
 else if e.Kind = 2 then decide (e.N = 0) && !fo_ e.Value
 else decide (e.Kind = 3) && decide (e.N = 0) && decide (e.Value = txt [])
def Dv_ : LC :=
 .seq (.ops [.s 1 (.box 79 (.tmp 0)), .s 2 (.mov (.const (.bool false)))]) (.seq (.seq (.ops [.fa 5 0 1, .ln 6 5]) (.block 0 (.seq (.ops [.bk 8 .eql false 6 1, .m 7 8]) (.cond (.tmp 7) (.seq (.ops [.fa 9 4 1, .ln 10 9,
 .c1 11 177 10, .m 12 11, .g 13 12 true (.fieldAddr 3 (.tmp 1)), .g 14 12 true (.load none (.tmp 13)), .g 15 12 true (.buildSlice 9 1 (.string ⟨#[]⟩) 1 [(0, .tmp 14)]), .g 16 12 true (.call 178 [.tmp 15]), .g 17 12 true
 (.un .not (.tmp 16)), .pf 18 12 17, .m 19 18, .g 20 19 true (.fieldAddr 4 (.tmp 1)), .g 21 19 true (.load none (.tmp 20)), .g 22 19 true (.bin .rem false (.tmp 21) (.const (.int .i64 10))), .g 23 19 true (.bin .eql false
 (.tmp 22) (.const (.int .i64 1))), .g 24 19 true (.mov (.tmp 23)), .g 25 24 false (.fieldAddr 3 (.tmp 1)), .g 26 24 false (.load none (.tmp 25)), .g 27 24 false (.bin .eql false (.tmp 26) (.const (.string ⟨#[]⟩))), .g 28
 19 true (.pick (.tmp 24) (.const (.bool true)) (.tmp 27)), .pf 29 19 28, .m 2 29]) .ret) (.seq (.ops [.bk 31 .eql false 6 4, .m 30 31]) (.cond (.tmp 30) (.seq (.ops [.fa 32 4 1, .ln 33 32, .c1 34 177 33, .m 35 34, .g 36
 35 true (.fieldAddr 3 (.tmp 1)), .g 37 35 true (.load none (.tmp 36)), .g 38 35 true (.bin .eql false (.tmp 37) (.const (.string ⟨#[]⟩))), .pf 39 35 38, .m 2 39]) .ret) (.seq (.ops [.bk 41 .eql false 6 5, .m 40 41])
 (.cond (.tmp 40) (.seq (.ops [.fa 42 4 1, .ln 43 42, .bk 44 .eql false 43 1, .m 45 44, .g 46 45 false (.fieldAddr 4 (.tmp 1)), .g 47 45 false (.load none (.tmp 46)), .g 48 45 false (.bin .eql false (.tmp 47) (.const
 (.int .i64 (-1)))), .pt 49 45 48, .m 50 49, .g 51 50 true (.fieldAddr 3 (.tmp 1)), .g 52 50 true (.load none (.tmp 51)), .g 53 50 true (.bin .eql false (.tmp 52) (.const (.string ⟨#[]⟩))), .g 54 50 true (.mov (.tmp 53)),
 .g 55 54 false (.fieldAddr 3 (.tmp 1)), .g 56 54 false (.load none (.tmp 55)), .g 57 54 false (.call 179 [.tmp 56]), .g 58 50 true (.pick (.tmp 54) (.const (.bool true)) (.tmp 57)), .pf 59 50 58, .m 2 59]) .ret) (.seq
 (.ops [.bk 61 .eql false 6 6, .m 60 61]) (.cond (.tmp 60) (.seq (.ops [.fa 63 3 1, .ln 64 63, .c1 65 180 64, .m 62 65, .ex 66 62 0, .ex 67 62 1, .m 3 66, .m 4 67]) (.seq (.ops [.fa 68 4 1, .ln 69 68, .bk 70 .eql false 69
 1, .m 71 70, .g 72 71 true (.mov (.tmp 4)), .pf 73 71 72, .m 74 73, .g 75 74 false (.fieldAddr 4 (.tmp 1)), .g 76 74 false (.load none (.tmp 75)), .g 77 74 false (.bin .eql false (.tmp 76) (.const (.int .i64 0))), .g 78
 74 false (.mov (.tmp 77)), .g 79 78 true (.fieldAddr 3 (.tmp 1)), .g 80 78 true (.load none (.tmp 79)), .g 81 78 true (.bin .eql false (.tmp 80) (.const (.string ⟨#[]⟩))), .g 82 74 false (.pick (.tmp 78) (.tmp 81)
 (.const (.bool false))), .pt 83 74 82, .m 2 83]) .ret)) (.seq (.ops [.bk 85 .eql false 6 2, .m 84 85]) (.cond (.tmp 84) (.seq (.ops [.fa 86 4 1, .ln 87 86, .bk 88 .eql false 87 0, .m 89 88, .g 90 89 true (.fieldAddr 3
 (.tmp 1)), .g 91 89 true (.load none (.tmp 90)), .g 92 89 true (.buildSlice 9 1 (.string ⟨#[]⟩) 1 [(0, .tmp 91)]), .g 93 89 true (.call 178 [.tmp 92]), .g 94 89 true (.un .not (.tmp 93)), .pf 95 89 94, .m 2 95]) .ret)
 .skip)))))))))))) (.seq (.ops [.fa 96 0 1, .ln 97 96, .bk 98 .eql false 97 3, .m 99 98, .g 100 99 true (.fieldAddr 4 (.tmp 1)), .g 101 99 true (.load none (.tmp 100)), .g 102 99 true (.bin .eql false (.tmp 101) (.const
 (.int .i64 0))), .pf 103 99 102, .m 104 103, .g 105 104 true (.fieldAddr 3 (.tmp 1)), .g 106 104 true (.load none (.tmp 105)), .g 107 104 true (.bin .eql false (.tmp 106) (.const (.string ⟨#[]⟩))), .pf 108 104 107, .m 2
 108]) .ret))
def wp_ : LF := ⟨1, 109, Dv_, [.tmp 2]⟩
theorem BA_ : at_ Tryz.prog Tryz.f141 wp_ := ai_
theorem f0_ (x : ab_) (hx : ab_.sz x ≤ 1048576) (h : List Row) : aa_ Tryz.prog 141 [.agg (ab_.cells x)] h (.val (.bool (bi_ x))) := by
 refine aj_ mixed Tryz.func141 BA_ rfl rfl ?_ h
 have hv := ab_.sz_Value hx
 simp (disch := omega) only [wp_, Dv_, ab_.cells, go_sem, Nat.reduceEqDiff, Nat.reduceAdd, Int.reduceNeg, ↓reduceIte]
 by_cases k1 : x.Kind = 1
 ·simp (disch := omega) only [k1, go_sem, Nat.reduceEqDiff, Int.reduceNeg, ↓reduceIte]
  repeat' (first
   | exact af_ _ _
   | (refine ae_ ?_; simp [bi_, *]; done)
   | simp (disch := omega) only [go_sem, Nat.reduceEqDiff, ↓reduceIte]
   | (refine aa_.call (eY_ _ _) ?_)
   | (refine aa_.q (eY_ _ _) ?_)
   | (refine aa_.call (gM_ x.Value rfl) ?_)
   | (refine aa_.q (gM_ x.Value rfl) ?_)
   | ((first | (apply aS_; assumption) | (apply aT_; assumption) | (apply a8_; assumption) | (apply a9_; assumption)); intro hb; try simp only [hb])
   | ((first | (apply aF_; assumption) | (apply aE_; assumption) | (apply aN_; assumption) | (apply aO_; assumption)); intro hb; try simp only [hb])
   | ((first | apply az_ | apply aC_ | apply ak_ | apply an_) <;> intro hb <;> (try simp only [hb]) <;> (first | have hp := aV_ hb | have hp := aU_ hb | have hp := aW_ hb | have hp := aX_ hb | skip)))
 by_cases k4 : x.Kind = 4
 ·simp (disch := omega) only [k4, Int.reduceEq, go_sem, Nat.reduceEqDiff, Int.reduceNeg, ↓reduceIte]
  repeat' (first
   | exact af_ _ _
   | (refine ae_ ?_; simp [bi_, *]; done)
   | simp (disch := omega) only [go_sem, Nat.reduceEqDiff, ↓reduceIte]
   | (refine aa_.call (eY_ _ _) ?_)
   | (refine aa_.q (eY_ _ _) ?_)
   | (refine aa_.call (gM_ x.Value rfl) ?_)
   | (refine aa_.q (gM_ x.Value rfl) ?_)
   | ((first | (apply aS_; assumption) | (apply aT_; assumption) | (apply a8_; assumption) | (apply a9_; assumption)); intro hb; try simp only [hb])
   | ((first | (apply aF_; assumption) | (apply aE_; assumption) | (apply aN_; assumption) | (apply aO_; assumption)); intro hb; try simp only [hb])
   | ((first | apply az_ | apply aC_ | apply ak_ | apply an_) <;> intro hb <;> (try simp only [hb]) <;> (first | have hp := aV_ hb | have hp := aU_ hb | have hp := aW_ hb | have hp := aX_ hb | skip)))
 by_cases k5 : x.Kind = 5
 ·simp (disch := omega) only [k5, Int.reduceEq, go_sem, Nat.reduceEqDiff, Int.reduceNeg, ↓reduceIte]
  repeat' (first
   | exact af_ _ _
   | (refine ae_ ?_; simp [bi_, *]; done)
   | simp (disch := omega) only [go_sem, Nat.reduceEqDiff, Int.reduceNeg, ↓reduceIte]
   | (refine aa_.call (fO_ _ _) ?_)
   | (refine aa_.q (fO_ _ _) ?_)
   | ((first | (apply aS_; assumption) | (apply aT_; assumption) | (apply a8_; assumption) | (apply a9_; assumption)); intro hb; try simp only [hb])
   | ((first | (apply aF_; assumption) | (apply aE_; assumption) | (apply aN_; assumption) | (apply aO_; assumption)); intro hb; try simp only [hb])
   | ((first | apply az_ | apply aC_ | apply ak_ | apply an_) <;> intro hb <;> (try simp only [hb]) <;> (first | have hp := aV_ hb | have hp := aU_ hb | have hp := aW_ hb | have hp := aX_ hb | skip)))
 by_cases k6 : x.Kind = 6
 ·simp (disch := omega) only [k6, Int.reduceEq, go_sem, Nat.reduceEqDiff, Int.reduceNeg, ↓reduceIte]
  repeat' (first
   | exact af_ _ _
   | (refine ae_ ?_; simp [bi_, *]; done)
   | simp (disch := omega) only [go_sem, Nat.reduceEqDiff, ↓reduceIte]
   | (refine aa_.call (ir_ _ hv _) ?_)
   | (refine aa_.q (ir_ _ hv _) ?_)
   | ((first | (apply aS_; assumption) | (apply aT_; assumption) | (apply a8_; assumption) | (apply a9_; assumption)); intro hb; try simp only [hb])
   | ((first | (apply aF_; assumption) | (apply aE_; assumption) | (apply aN_; assumption) | (apply aO_; assumption)); intro hb; try simp only [hb])
   | ((first | apply az_ | apply aC_ | apply ak_ | apply an_) <;> intro hb <;> (try simp only [hb]) <;> (first | have hp := aV_ hb | have hp := aU_ hb | have hp := aW_ hb | have hp := aX_ hb | skip)))
 by_cases k2 : x.Kind = 2
 ·simp (disch := omega) only [k2, Int.reduceEq, go_sem, Nat.reduceEqDiff, Int.reduceNeg, ↓reduceIte]
  repeat' (first
   | exact af_ _ _
   | (refine ae_ ?_; simp [bi_, *]; done)
   | simp (disch := omega) only [go_sem, Nat.reduceEqDiff, ↓reduceIte]
   | (refine aa_.call (gM_ x.Value rfl) ?_)
   | (refine aa_.q (gM_ x.Value rfl) ?_)
   | ((first | (apply aS_; assumption) | (apply aT_; assumption) | (apply a8_; assumption) | (apply a9_; assumption)); intro hb; try simp only [hb])
   | ((first | (apply aF_; assumption) | (apply aE_; assumption) | (apply aN_; assumption) | (apply aO_; assumption)); intro hb; try simp only [hb])
   | ((first | apply az_ | apply aC_ | apply ak_ | apply an_) <;> intro hb <;> (try simp only [hb]) <;> (first | have hp := aV_ hb | have hp := aU_ hb | have hp := aW_ hb | have hp := aX_ hb | skip)))
 simp (disch := omega) only [k1, k4, k5, k6, k2, go_sem, Nat.reduceEqDiff, Int.reduceNeg, ↓reduceIte]
 repeat' (first
  | exact af_ _ _
  | (refine ae_ ?_; simp [bi_, *]; done)
  | simp (disch := omega) only [go_sem, Nat.reduceEqDiff, ↓reduceIte]
  | ((first | (apply aS_; assumption) | (apply aT_; assumption) | (apply a8_; assumption) | (apply a9_; assumption)); intro hb; try simp only [hb])
  | ((first | (apply aF_; assumption) | (apply aE_; assumption) | (apply aN_; assumption) | (apply aO_; assumption)); intro hb; try simp only [hb])
  | ((first | apply az_ | apply aC_ | apply ak_ | apply an_) <;> intro hb <;> (try simp only [hb]) <;> (first | have hp := aV_ hb | have hp := aU_ hb | have hp := aW_ hb | have hp := aX_ hb | skip)))
theorem el_ (s : ByteArray) (hs : s.size ≤ 1048576) (h : List Row) : aa_ Tryz.prog 221 [.val (.string s)] h (.val (.bool (b4_ s.data.toList))) := by
 have := hS_ s.data.toList (by rw [fa_]; omega) h
 rwa [eA_] at this
theorem fv_ (s : ByteArray) (hs : s.size ≤ 1048576) (h : List Row) : aa_ Tryz.prog 222 [.val (.string s)] h (.val (.int .i64 (bX_ s.data.toList))) := by
 have := hr_ s.data.toList (by rw [fa_]; omega) h
 rwa [eA_] at this
theorem nh_ (q : Bool) (a b : ByteArray) : bf_ .lss q (.val (.string a)) (.val (.string b)) = some (.val (.bool (Op.bytesLess a.data.toList b.data.toList))) := by
 rw [pT_, ei_, ei_]
theorem yt_ (q : Bool) (a b : ByteArray) : bf_ .gtr q (.val (.string a)) (.val (.string b)) = some (.val (.bool (Op.bytesLess b.data.toList a.data.toList))) := by
 have e : bf_ .gtr q (.val (.string a)) (.val (.string b)) = some (.val (.bool (!(Op.bytesLess a.toList b.toList || a.toList == b.toList)))) := rfl
 rw [e, ei_, ei_]
 have : (!(Op.bytesLess a.data.toList b.data.toList || a.data.toList == b.data.toList)) = Op.bytesLess b.data.toList a.data.toList := by
  by_cases h1 : Op.bytesLess a.data.toList b.data.toList = true
  ·rw [h1, mG_ _ _ h1]; rfl
  ·by_cases h2 : a.data.toList = b.data.toList
   ·rw [h2, eP_]; simp
   ·have h3 : (a.data.toList == b.data.toList) = false := by simpa using h2
    have h1' : Op.bytesLess a.data.toList b.data.toList = false := by simpa using h1
    rw [h1', h3]
    by_cases h4 : Op.bytesLess b.data.toList a.data.toList = true
    ·rw [h4]; rfl
    ·exact absurd (hI_ _ _ h1' (by simpa using h4)) h2
 rw [this]
def AN_ : LC :=
 .seq (.ops [.s 2 (.mov (.const (.bool false)))]) (.seq (.ops [.m 3 0, .m 4 0, .bb 5 .neq false 3 4, .m 2 5]) .ret)
def wT_ : LF := ⟨1, 6, AN_, [.tmp 2]⟩
theorem Aa_ : at_ Tryz.prog Tryz.f172 wT_ := ai_
theorem gJ_ (s : ByteArray)  (h : List Row) : aa_ Tryz.prog 172 [.val (.string s)] h (.val (.bool false)) := by
 refine aj_ mixed Tryz.func172 Aa_ rfl rfl ?_ h
 simp (disch := omega) only [wT_, AN_, go_sem, Nat.reduceEqDiff, reduceCtorEq, ↓reduceIte]
 repeat' (first
  | exact af_ _ _
  | simp (disch := omega) only [go_sem, Nat.reduceEqDiff, Nat.reduceAdd, Nat.reduceLeDiff, reduceCtorEq, Int.reduceLT, Int.reduceLE, Int.reduceNeg, Int.reduceSub, Int.reduceAdd, Int.reduceToNat, ↓reduceIte]
  | ((first | (apply aF_; assumption) | (apply aE_; assumption) | (apply aN_; assumption) | (apply aO_; assumption)); intro hb; try simp only [hb])
  | ((first | apply ak_ | apply an_) <;> intro hb <;> (try simp only [hb]) <;> (first | have hp := aV_ hb | have hp := aU_ hb | have hp := aW_ hb | have hp := aX_ hb | skip)))
def C0_ : LC :=
 .seq (.ops [.s 2 (.mov (.const (.bool false)))]) (.seq (.ops [.m 3 0, .m 4 0, .bb 5 .neq false 3 4, .m 2 5]) .ret)
def wO_ : LF := ⟨1, 6, C0_, [.tmp 2]⟩
theorem Bk_ : at_ Tryz.prog Tryz.f225 wO_ := ai_
theorem hc_ (s : Int)  (h : List Row) : aa_ Tryz.prog 225 [.val (.int .i64 s)] h (.val (.bool false)) := by
 refine aj_ mixed Tryz.func225 Bk_ rfl rfl ?_ h
 simp (disch := omega) only [wO_, C0_, go_sem, Nat.reduceEqDiff, reduceCtorEq, ↓reduceIte]
 repeat' (first
  | exact af_ _ _
  | simp (disch := omega) only [go_sem, Nat.reduceEqDiff, Nat.reduceAdd, Nat.reduceLeDiff, reduceCtorEq, Int.reduceLT, Int.reduceLE, Int.reduceNeg, Int.reduceSub, Int.reduceAdd, Int.reduceToNat, ↓reduceIte]
  | ((first | (apply aF_; assumption) | (apply aE_; assumption) | (apply aN_; assumption) | (apply aO_; assumption)); intro hb; try simp only [hb])
  | ((first | apply ak_ | apply an_) <;> intro hb <;> (try simp only [hb]) <;> (first | have hp := aV_ hb | have hp := aU_ hb | have hp := aW_ hb | have hp := aX_ hb | skip)))
def CK_ : LC :=
 .seq (.ops [.ki 4 0]) (.seq (.ops [.m 7 0, .c1 8 225 7, .m 5 8]) (.seq (.ops [.m 9 1, .c1 10 225 9, .m 6 10]) (.seq (.seq (.ops [.m 11 5]) (.cond (.tmp 11) (.seq (.seq (.ops [.m 12 6]) (.cond (.tmp 12) (.seq (.ops [.ki 4
 0]) .ret) .skip)) (.seq (.ops [.s 4 (.mov (.const (.int .i64 (-1))))]) .ret)) .skip)) (.seq (.seq (.ops [.m 13 6]) (.cond (.tmp 13) (.seq (.ops [.ki 4 1]) .ret) .skip)) (.seq (.seq (.ops [.m 14 0, .m 15 1, .bb 16 .lss
 false 14 15]) (.cond (.tmp 16) (.seq (.ops [.s 4 (.mov (.const (.int .i64 (-1))))]) .ret) .skip)) (.seq (.seq (.ops [.m 17 0, .m 18 1, .bb 19 .gtr false 17 18]) (.cond (.tmp 19) (.seq (.ops [.ki 4 1]) .ret) .skip)) (.seq
 (.ops [.ki 4 0]) .ret)))))))
def w4_ : LF := ⟨2, 20, CK_, [.tmp 4]⟩
theorem zf_ : at_ Tryz.prog Tryz.f204 w4_ := ai_
theorem gy_ (a b : Int)  (h : List Row) : aa_ Tryz.prog 204 [.val (.int .i64 a), .val (.int .i64 b)] h (.val (.int .i64 (ko_ a b))) := by
 refine aj_ mixed Tryz.func204 zf_ rfl rfl ?_ h
 simp (disch := omega) only [w4_, CK_, go_sem, reduceCtorEq, Int.reduceNeg, ↓reduceIte]
 repeat' (first
  | exact af_ _ _
  | (refine aG_ ?_; simp only [decide_eq_true_eq, decide_eq_false_iff_not] at *; unfold ko_; (repeat' split) <;> omega)
  | simp (disch := omega) only [go_sem, Nat.reduceEqDiff, reduceCtorEq, Int.reduceNeg, ↓reduceIte]
  | (refine aa_.call (hc_ _ _) ?_)
  | (refine aa_.q (hc_ _ _) ?_)
  | ((first | (apply aF_; assumption) | (apply aE_; assumption) | (apply aN_; assumption) | (apply aO_; assumption)); intro hb; try simp only [hb])
  | ((first | apply ak_ | apply an_) <;> intro hb <;> (try simp only [hb]) <;> (first | have hp := aV_ hb | have hp := aU_ hb | have hp := aW_ hb | have hp := aX_ hb | skip)))
def AF_ : LC :=
 .seq (.ops [.ki 4 0]) (.seq (.ops [.m 7 0, .c1 8 172 7, .m 5 8]) (.seq (.ops [.m 9 1, .c1 10 172 9, .m 6 10]) (.seq (.seq (.ops [.m 11 5]) (.cond (.tmp 11) (.seq (.seq (.ops [.m 12 6]) (.cond (.tmp 12) (.seq (.ops [.ki 4
 0]) .ret) .skip)) (.seq (.ops [.s 4 (.mov (.const (.int .i64 (-1))))]) .ret)) .skip)) (.seq (.seq (.ops [.m 13 6]) (.cond (.tmp 13) (.seq (.ops [.ki 4 1]) .ret) .skip)) (.seq (.seq (.ops [.m 14 0, .m 15 1, .bb 16 .lss
 false 14 15]) (.cond (.tmp 16) (.seq (.ops [.s 4 (.mov (.const (.int .i64 (-1))))]) .ret) .skip)) (.seq (.seq (.ops [.m 17 0, .m 18 1, .bb 19 .gtr false 17 18]) (.cond (.tmp 19) (.seq (.ops [.ki 4 1]) .ret) .skip)) (.seq
 (.ops [.ki 4 0]) .ret)))))))
def wt_ : LF := ⟨2, 20, AF_, [.tmp 4]⟩
theorem Bt_ : at_ Tryz.prog Tryz.f137 wt_ := ai_
theorem eC_ (a b : ByteArray)  (h : List Row) : aa_ Tryz.prog 137 [.val (.string a), .val (.string b)] h (.val (.int .i64 (iZ_ a.data.toList b.data.toList))) := by
 refine aj_ mixed Tryz.func137 Bt_ rfl rfl ?_ h
 simp (disch := omega) only [wt_, AF_, go_sem, reduceCtorEq, Int.reduceNeg, ↓reduceIte]
 repeat' (first
  | exact af_ _ _
  | (refine aG_ ?_; simp only [iZ_, *]; first | rfl | (simp; done))
  | simp (disch := omega) only [nh_, yt_, go_sem, Nat.reduceEqDiff, reduceCtorEq, Int.reduceNeg, ↓reduceIte]
  | (refine aa_.call (gJ_ _ _) ?_)
  | (refine aa_.q (gJ_ _ _) ?_)
  | ((first | (apply aS_; assumption) | (apply aT_; assumption) | (apply a8_; assumption) | (apply a9_; assumption)); intro hb; try simp only [hb])
  | ((first | (apply aF_; assumption) | (apply aE_; assumption) | (apply aN_; assumption) | (apply aO_; assumption)); intro hb; try simp only [hb])
  | ((first | apply az_ | apply aC_ | apply ak_ | apply an_) <;> intro hb <;> (try simp only [hb]) <;> (first | have hp := aV_ hb | have hp := aU_ hb | have hp := aW_ hb | have hp := aX_ hb | skip)))
def Au_ : LC :=
 .seq (.ops [.ki 4 0]) (.seq (.ops [.m 7 0, .c1 8 203 7, .m 9 1, .c1 10 203 9, .m 5 8, .m 6 10]) (.seq (.block 0 (.seq (.ops [.m 12 5, .m 13 12, .g 14 13 true (.mov (.tmp 6)), .pf 15 13 14, .m 11 15]) (.cond (.tmp 11)
 (.seq (.ops [.m 16 0, .c1 17 205 16, .m 18 1, .c1 19 205 18, .c2 20 204 17 19, .m 4 20]) .ret) (.seq (.ops [.m 22 5, .m 21 22]) (.cond (.tmp 21) (.seq (.ops [.s 4 (.mov (.const (.int .i64 (-1))))]) .ret) (.seq (.ops [.m
 24 6, .m 23 24]) (.cond (.tmp 23) (.seq (.ops [.ki 4 1]) .ret) .skip))))))) (.seq (.ops [.m 25 0, .m 26 1, .c2 27 137 25 26, .m 4 27]) .ret)))
def xI_ : LF := ⟨2, 28, Au_, [.tmp 4]⟩
theorem Br_ : at_ Tryz.prog Tryz.f174 xI_ := ai_
theorem eU_ (a b : ByteArray) (ha : a.size ≤ 1048576) (hbb : b.size ≤ 1048576) (h : List Row) : aa_ Tryz.prog 174 [.val (.string a), .val (.string b)] h (.val (.int .i64 (dj_ a.data.toList b.data.toList))) := by
 refine aj_ mixed Tryz.func174 Br_ rfl rfl ?_ h
 simp (disch := omega) only [xI_, Au_, go_sem, reduceCtorEq, Int.reduceNeg, ↓reduceIte]
 repeat' (first
  | exact af_ _ _
  | (refine aG_ ?_; simp only [dj_, *]; first | rfl | (simp; done))
  | simp (disch := omega) only [go_sem, Nat.reduceEqDiff, reduceCtorEq, Int.reduceNeg, ↓reduceIte]
  | (refine aa_.call (dM_ _ ha _) ?_)
  | (refine aa_.q (dM_ _ ha _) ?_)
  | (refine aa_.call (dM_ _ hbb _) ?_)
  | (refine aa_.q (dM_ _ hbb _) ?_)
  | (refine aa_.call (ez_ _ ha _) ?_)
  | (refine aa_.q (ez_ _ ha _) ?_)
  | (refine aa_.call (ez_ _ hbb _) ?_)
  | (refine aa_.q (ez_ _ hbb _) ?_)
  | (refine aa_.call (gy_ _ _ _) ?_)
  | (refine aa_.q (gy_ _ _ _) ?_)
  | (refine aa_.call (eC_ _ _ _) ?_)
  | (refine aa_.q (eC_ _ _ _) ?_)
  | ((first | (apply aS_; assumption) | (apply aT_; assumption) | (apply a8_; assumption) | (apply a9_; assumption)); intro hb; try simp only [hb])
  | ((first | (apply aF_; assumption) | (apply aE_; assumption) | (apply aN_; assumption) | (apply aO_; assumption)); intro hb; try simp only [hb])
  | ((first | apply az_ | apply aC_ | apply ak_ | apply an_) <;> intro hb <;> (try simp only [hb]) <;> (first | have hp := aV_ hb | have hp := aU_ hb | have hp := aW_ hb | have hp := aX_ hb | skip)))
def zO_ : LC :=
 .seq (.ops [.s 4 (.mov (.const (.bool false)))]) (.seq (.ops [.m 7 0, .c1 8 221 7, .m 5 8]) (.seq (.ops [.m 9 1, .c1 10 221 9, .m 6 10]) (.seq (.seq (.ops [.m 11 5, .m 12 11, .g 13 12 true (.mov (.tmp 6)), .pf 14 12 13])
 (.cond (.tmp 14) (.seq (.ops [.m 15 0, .c1 16 222 15, .m 17 1, .c1 18 222 17, .bb 19 .lss false 16 18, .m 4 19]) .ret) .skip)) (.seq (.seq (.ops [.m 20 5, .m 21 6, .bb 22 .neq true 20 21]) (.cond (.tmp 22) (.seq (.ops
 [.m 23 5, .m 4 23]) .ret) .skip)) (.seq (.ops [.m 24 0, .m 25 1, .bb 26 .lss false 24 25, .m 4 26]) .ret)))))
def xJ_ : LF := ⟨2, 27, zO_, [.tmp 4]⟩
theorem y4_ : at_ Tryz.prog Tryz.f194 xJ_ := ai_
theorem fA_ (a b : ByteArray) (ha : a.size ≤ 1048576) (hbb : b.size ≤ 1048576) (h : List Row) : aa_ Tryz.prog 194 [.val (.string a), .val (.string b)] h (.val (.bool (before a.data.toList b.data.toList))) := by
 refine aj_ mixed Tryz.func194 y4_ rfl rfl ?_ h
 simp (disch := omega) only [xJ_, zO_, go_sem, reduceCtorEq, ↓reduceIte]
 repeat' (first
  | exact af_ _ _
  | (refine ae_ ?_; simp only [before, *]; first | rfl | (simp; done))
  | (refine ae_ ?_; simp_all [before]; done)
  | simp (disch := omega) only [nh_, pG_, go_sem, Nat.reduceEqDiff, reduceCtorEq, ↓reduceIte]
  | (refine aa_.call (el_ _ ha _) ?_)
  | (refine aa_.q (el_ _ ha _) ?_)
  | (refine aa_.call (el_ _ hbb _) ?_)
  | (refine aa_.q (el_ _ hbb _) ?_)
  | (refine aa_.call (fv_ _ ha _) ?_)
  | (refine aa_.q (fv_ _ ha _) ?_)
  | (refine aa_.call (fv_ _ hbb _) ?_)
  | (refine aa_.q (fv_ _ hbb _) ?_)
  | ((first | (apply aS_; assumption) | (apply aT_; assumption) | (apply a8_; assumption) | (apply a9_; assumption)); intro hb; try simp only [hb])
  | ((first | (apply aF_; assumption) | (apply aE_; assumption) | (apply aN_; assumption) | (apply aO_; assumption)); intro hb; try simp only [hb])
  | ((first | apply az_ | apply aC_ | apply ak_ | apply an_) <;> intro hb <;> (try simp only [hb]) <;> (first | have hp := aV_ hb | have hp := aU_ hb | have hp := aW_ hb | have hp := aX_ hb | skip)))
def zi_ : LC :=
 .seq (.ops [.s 4 (.mov (.const (.bool false)))]) (.seq (.ops [.m 5 0, .m 6 1, .c2 7 194 5 6, .m 4 7]) .ret)
def xY_ : LF := ⟨2, 8, zi_, [.tmp 4]⟩
theorem B3_ : at_ Tryz.prog Tryz.f200 xY_ := ai_
theorem dD_ (a b : ByteArray) (ha : a.size ≤ 1048576) (hbb : b.size ≤ 1048576) (h : List Row) : aa_ Tryz.prog 200 [.val (.string a), .val (.string b)] h (.val (.bool (before a.data.toList b.data.toList))) := by
 refine aj_ mixed Tryz.func200 B3_ rfl rfl ?_ h
 simp (disch := omega) only [xY_, zi_, go_sem, Nat.reduceEqDiff, reduceCtorEq, ↓reduceIte]
 repeat' (first
  | exact af_ _ _
  | simp (disch := omega) only [go_sem, ↓reduceIte]
  | (refine aa_.call (fA_ _ _ ha hbb _) ?_)
  | (refine aa_.q (fA_ _ _ ha hbb _) ?_)
  | ((first | (apply aF_; assumption) | (apply aE_; assumption) | (apply aN_; assumption) | (apply aO_; assumption)); intro hb; try simp only [hb])
  | ((first | apply ak_ | apply an_) <;> intro hb <;> (try simp only [hb]) <;> (first | have hp := aV_ hb | have hp := aU_ hb | have hp := aW_ hb | have hp := aX_ hb | skip)))
def gF_ (c : ByteArray → ByteArray → Int) : List ByteArray → List ByteArray → Int
 | [], [] => 0
 | [], _ :: _ => -1
 | _ :: _, [] => 1
 | x :: xs, y :: ys => if c x y = 0 then gF_ c xs ys else c x y
theorem sc_ (c : ByteArray → ByteArray → Int) (xs ys : List ByteArray) (k : Nat) (h1 : k < xs.length) (h2 : k < ys.length) : gF_ c (xs.drop k) (ys.drop k) = if c xs[k] ys[k] = 0 then gF_ c (xs.drop (k + 1)) (ys.drop (k + 1)) else c xs[k] ys[k] := by
 rw [drop_eq_getElem_cons h1, drop_eq_getElem_cons h2]; rfl
theorem sv_ (c : ByteArray → ByteArray → Int) (xs ys : List ByteArray) (k : Nat) (h1 : k < xs.length) (h2 : ys.length ≤ k) : gF_ c (xs.drop k) (ys.drop k) = 1 := by
 rw [drop_eq_getElem_cons h1, drop_eq_nil_of_le h2]; rfl
theorem q2_ (c : ByteArray → ByteArray → Int) (xs ys : List ByteArray) (k : Nat) (h1 : xs.length ≤ k) (h2 : k < ys.length) : gF_ c (xs.drop k) (ys.drop k) = -1 := by
 rw [drop_eq_nil_of_le h1, drop_eq_getElem_cons h2]; rfl
theorem tG_ (c : ByteArray → ByteArray → Int) (xs ys : List ByteArray) (k : Nat) (h1 : xs.length ≤ k) (h2 : ys.length ≤ k) : gF_ c (xs.drop k) (ys.drop k) = 0 := by
 rw [drop_eq_nil_of_le h1, drop_eq_nil_of_le h2]; rfl
def An_ : LC :=
 .seq (.ops [.ki 6 0]) (.seq (.seq (.ops [.m 11 0, .ll 12 11, .ki 13 0]) (.block 0 (.loop (.seq (.ops [.bb 14 .lss false 13 12]) (.seq (.cond (.tmp 14) .skip (.exit 0)) (.seq (.block 1 (.seq (.ops [.m 15 13, .ia 16 1 11
 13, .ln 17 16, .m 7 15, .m 8 17]) (.seq (.seq (.ops [.m 18 7, .m 19 1, .ll 20 19, .bb 21 .geq false 18 20]) (.cond (.tmp 21) (.seq (.ops [.ki 6 1]) .ret) .skip)) (.seq (.ops [.m 22 1, .m 23 7, .ia 24 1 22 23, .ln 25 24,
 .m 9 25]) (.seq (.ops [.m 26 2, .m 27 8, .m 28 9, .s 29 (.callv (.tmp 26) [.tmp 27, .tmp 28]), .m 10 29]) (.seq (.ops [.m 30 10, .bk 31 .neq false 30 0]) (.cond (.tmp 31) (.seq (.ops [.m 32 10, .m 6 32]) .ret)
 .skip))))))) (.ops [.bk 33 .add false 13 1, .m 13 33]))))))) (.seq (.seq (.ops [.m 34 0, .ll 35 34, .m 36 1, .ll 37 36, .bb 38 .lss false 35 37]) (.cond (.tmp 38) (.seq (.ops [.s 6 (.mov (.const (.int .i64 (-1))))])
 .ret) .skip)) (.seq (.ops [.ki 6 0]) .ret)))
def xC_ : LF := ⟨3, 39, An_, [.tmp 6]⟩
theorem BT_ : at_ Tryz.prog Tryz.f173 xC_ := ai_
theorem ep_ (xs ys : List ByteArray) (c : ByteArray → ByteArray → Int) (g : Nat) (hx : xs.length ≤ 1048576) (hy : ys.length ≤ 1048576) (hc : co_ Tryz.prog g = true) (hp : ∀ x ∈ xs, ∀ y ∈ ys, ∀ h, aa_ Tryz.prog g [.val (.string x), .val (.string y)] h (.val (.int .i64 (c x y)))) (h : List Row) :
 aa_ Tryz.prog 173 [.list 0 1 (xs.map am_), .list 0 1 (ys.map am_), .fn g [] []] h (.val (.int .i64 (gF_ c xs ys))) := by
 refine aj_ mixed Tryz.func173 BT_ rfl rfl ?_ h
 simp (disch := omega) only [xC_, An_, go_sem, reduceCtorEq, Int.reduceNeg, ↓reduceIte]
 refine aL_ (fun n t h => ∃ k : Nat, t 0 = .list 0 1 (xs.map am_) ∧ t 1 = .list 0 1 (ys.map am_) ∧ t 2 = .fn g [] [] ∧ t 11 = .list 0 1 (xs.map am_) ∧ t 12 = .val (.int .i64 xs.length) ∧ t 13 = .val (.int .i64 k) ∧ n = xs.length - k ∧ k ≤ xs.length ∧ k ≤ ys.length ∧ gF_ c xs ys = gF_ c (xs.drop k) (ys.drop k)) xs.length ?_ ?_
 ·exact ⟨0, rfl, rfl, rfl, rfl, rfl, rfl, rfl, Nat.zero_le _, Nat.zero_le _, rfl⟩
 ·rintro J hJ n t h ⟨k, t0, t1, t2, t11, t12, t13, rfl, hk, hk2, hS⟩
  by_cases hlt : k < xs.length
  ·by_cases hlt2 : k < ys.length
   ·have hge : ¬ ((ys.length : Int) ≤ k) := by omega
    rw [sc_ c xs ys k hlt hlt2] at hS
    simp (disch := omega) only [t1, t2, t11, t12, t13, hlt, hge, hc, am_, go_sem, Nat.reduceEqDiff, Int.reduceNeg, ↓reduceIte]
    refine aa_.call (hp xs[k] (getElem_mem hlt) ys[k] (getElem_mem hlt2) _) ?_
    by_cases e : c xs[k] ys[k] = 0
    ·simp (disch := omega) only [t13, e, go_sem, Nat.reduceEqDiff, Int.reduceNeg, ↓reduceIte]
     exact ⟨xs.length - (k + 1), by omega, hJ _ _ _ ⟨k + 1, by simp [upd, t0], by simp [upd, t1], by simp [upd, t2], by simp [upd, t11], by simp [upd, t12], by simp [upd], rfl, by omega, by omega, by rw [hS, if_pos e]⟩⟩
    ·simp (disch := omega) only [e, go_sem, Nat.reduceEqDiff, Int.reduceNeg, ↓reduceIte]
     exact aG_ (by rw [hS, if_neg e])
   ·have hge : ((ys.length : Int) ≤ k) := by omega
    simp (disch := omega) only [t1, t11, t12, t13, hlt, hge, am_, go_sem, Nat.reduceEqDiff, Int.reduceNeg, ↓reduceIte]
    exact aG_ (by rw [hS, sv_ c xs ys k hlt (by omega)])
  ·by_cases hlt2 : k < ys.length
   ·have hl : (xs.length : Int) < ys.length := by omega
    simp (disch := omega) only [t0, t1, t12, t13, hlt, hl, go_sem, Nat.reduceEqDiff, reduceCtorEq, Int.reduceNeg, ↓reduceIte]
    exact aG_ (by rw [hS, q2_ c xs ys k (by omega) hlt2])
   ·have hl : ¬ ((xs.length : Int) < ys.length) := by omega
    simp (disch := omega) only [t0, t1, t12, t13, hlt, hl, go_sem, Nat.reduceEqDiff, reduceCtorEq, Int.reduceNeg, ↓reduceIte]
    exact aG_ (by rw [hS, tG_ c xs ys k (by omega) (by omega)])
theorem kf_ : ∀ xs ys : List ByteArray, gF_ (fun a b => dj_ a.data.toList b.data.toList) xs ys = fy_ (bss xs) (bss ys)
 | [], [] => rfl
 | [], _ :: _ => rfl
 | _ :: _, [] => rfl
 | x :: xs, y :: ys => by simp only [gF_, bss, map_cons, fy_]; rw [kf_ xs ys]
theorem eS_ {xs : List ByteArray} {b : Nat} (h : ao_ ByteArray.size xs ≤ b) {s : ByteArray} (hs : s ∈ xs) : s.size ≤ b := by
 have := bD_ (f := ByteArray.size) hs; omega
def Do_ : LC :=
 .seq (.ops [.ki 4 0]) (.seq (.ops [.m 5 0, .m 6 1, .s 7 (.call 173 [.tmp 5, .tmp 6, .func 174]), .m 4 7]) .ret)
def x5_ : LF := ⟨2, 8, Do_, [.tmp 4]⟩
theorem Cb_ : at_ Tryz.prog Tryz.f138 x5_ := ai_
theorem eL_ (a b : List ByteArray) (ha : ao_ ByteArray.size a ≤ 1048576) (hb : ao_ ByteArray.size b ≤ 1048576) (h : List Row) : aa_ Tryz.prog 138 [.list 0 1 (a.map am_), .list 0 1 (b.map am_)] h (.val (.int .i64 (fy_ (bss a) (bss b)))) := by
 refine aj_ mixed Tryz.func138 Cb_ rfl rfl ?_ h
 simp (disch := omega) only [x5_, Do_, go_sem, Nat.reduceEqDiff, reduceCtorEq, ↓reduceIte]
 repeat' (first
  | exact af_ _ _
  | exact aG_ (kf_ a b)
  | simp (disch := omega) only [go_sem, ↓reduceIte]
  | (refine aa_.call (ep_ a b (fun a b => dj_ a.data.toList b.data.toList) 174 (ax_ ha) (ax_ hb) (by kernel_rfl) (fun x hx y hy h => eU_ x y (eS_ ha hx) (eS_ hb hy) h) _) ?_)
  | (refine aa_.q (ep_ a b (fun a b => dj_ a.data.toList b.data.toList) 174 (ax_ ha) (ax_ hb) (by kernel_rfl) (fun x hx y hy h => eU_ x y (eS_ ha hx) (eS_ hb hy) h) _) ?_)
  | ((first | (apply aF_; assumption) | (apply aE_; assumption) | (apply aN_; assumption) | (apply aO_; assumption)); intro hb; try simp only [hb])
  | ((first | apply ak_ | apply an_) <;> intro hb <;> (try simp only [hb]) <;> (first | have hp := aV_ hb | have hp := aU_ hb | have hp := aW_ hb | have hp := aX_ hb | skip)))
def orL : List Int → Int
 | [] => 0
 | x :: xs => if x = 0 then orL xs else x
theorem uv_ (xs : List Int) (k : Nat) (h : k < xs.length) : orL (xs.drop k) = if xs[k] = 0 then orL (xs.drop (k + 1)) else xs[k] := by
 rw [drop_eq_getElem_cons h]; rfl
theorem yY_ (xs : List Int) (k : Nat) (h : xs.length ≤ k) : orL (xs.drop k) = 0 := by
 rw [drop_eq_nil_of_le h]; rfl
def BL_ : LC :=
 .seq (.ops [.ki 2 0]) (.seq (.ops [.ki 3 0]) (.seq (.seq (.ops [.m 6 0, .ll 7 6, .ki 8 0]) (.block 0 (.loop (.seq (.ops [.bb 9 .lss false 8 7]) (.seq (.cond (.tmp 9) .skip (.exit 0)) (.seq (.block 1 (.seq (.ops [.ia 10 1
 6 8, .ln 11 10, .m 5 11]) (.seq (.ops [.m 12 5, .m 13 3, .bb 14 .neq false 12 13]) (.cond (.tmp 14) (.seq (.ops [.m 15 5, .m 2 15]) .ret) .skip)))) (.ops [.bk 16 .add false 8 1, .m 8 16]))))))) (.seq (.ops [.m 17 3, .m 2
 17]) .ret)))
def wv_ : LF := ⟨1, 18, BL_, [.tmp 2]⟩
theorem CU_ : at_ Tryz.prog Tryz.f136 wv_ := ai_
theorem oT_ (xs : List Int) (hx : xs.length ≤ 1048576) (h : List Row) : aa_ Tryz.prog 136 [.list 0 1 (xs.map fun x => [.val (.int .i64 x)])] h (.val (.int .i64 (orL xs))) := by
 refine aj_ mixed Tryz.func136 CU_ rfl rfl ?_ h
 simp (disch := omega) only [wv_, BL_, go_sem, reduceCtorEq, ↓reduceIte]
 refine aL_ (fun n t h => ∃ k : Nat, t 3 = .val (.int .i64 0) ∧ t 6 = .list 0 1 (xs.map fun x => [.val (.int .i64 x)]) ∧ t 7 = .val (.int .i64 xs.length) ∧ t 8 = .val (.int .i64 k) ∧ n = xs.length - k ∧ k ≤ xs.length ∧ orL xs = orL (xs.drop k)) xs.length ?_ ?_
 ·exact ⟨0, rfl, rfl, rfl, rfl, rfl, Nat.zero_le _, rfl⟩
 ·rintro J hJ n t h ⟨k, t3, t6, t7, t8, rfl, hk, hS⟩
  by_cases hlt : k < xs.length
  ·rw [uv_ xs k hlt] at hS
   by_cases e : xs[k] = 0
   ·simp (disch := omega) only [t3, t6, t7, t8, hlt, e, go_sem, Nat.reduceEqDiff, ↓reduceIte]
    exact ⟨xs.length - (k + 1), by omega, hJ _ _ _ ⟨k + 1, by simp [upd, t3], by simp [upd, t6], by simp [upd, t7], by simp [upd], rfl, by omega, by rw [hS, if_pos e]⟩⟩
   ·simp (disch := omega) only [t3, t6, t7, t8, hlt, e, go_sem, Nat.reduceEqDiff, ↓reduceIte]
    exact aG_ (by rw [hS, if_neg e])
  ·simp (disch := omega) only [t3, t7, t8, hlt, go_sem, Nat.reduceEqDiff, ↓reduceIte]
   exact aG_ (by rw [hS, yY_ _ _ (by omega)])
theorem su_ (a b : Int) (h : List Row) : aa_ Tryz.prog 136 [.list 0 1 [[.val (.int .i64 a)], [.val (.int .i64 b)]]] h (.val (.int .i64 (if a = 0 then b else a))) := by
 have := oT_ [a, b] (by simp) h
 have e : orL [a, b] = if a = 0 then b else a := by
  simp only [orL]; split
  ·split
   ·omega
   ·rfl
  ·rfl
 rwa [e] at this
theorem ss_ (a b : Int) (E : Tag) (l : Nat) (H : List Row) (K : AV → List Row → Prop) (hl : H[l]? = some ⟨E, 1, [[.val (.int .i64 a)], [.val (.int .i64 b)]]⟩) (hk : K (.val (.int .i64 (if a = 0 then b else a))) H) : callSem Tryz.prog 136 [.own l 2] H K :=
 pM_ (rs := [.list 0 1 [[.val (.int .i64 a)], [.val (.int .i64 b)]]]) (fun h => su_ a b h) (show a6_ H [.own l 2] _ from ⟨_, [], rfl, .inr ⟨2, [l], ⟨_, [[.val (.int .i64 a)], [.val (.int .i64 b)]], [], hl, rfl, by
  refine ⟨_, _, [], [], rfl, rfl, ⟨_, _, [], [], rfl, rfl, ⟨rfl, .inl rfl⟩, ⟨rfl, rfl⟩⟩, ⟨_, _, [], [], rfl, rfl, ⟨_, _, [], [], rfl, rfl, ⟨rfl, .inl rfl⟩, ⟨rfl, rfl⟩⟩, ⟨rfl, rfl⟩⟩⟩, rfl, rfl⟩⟩, rfl⟩) hk
def c89 : LC :=
 .seq (.ops [.ki 8 0]) (.seq (.ops [.m 9 0, .m 10 2, .c2 11 137 9 10, .m 12 1, .m 13 3, .c2 14 138 12 13, .s 15 (.buildSlice 3 1 (.int .i64 0) 2 [(0, .tmp 11), (1, .tmp 14)]), .c1 16 136 15, .m 8 16]) .ret)
def Cn_ : LF := ⟨4, 17, c89, [.tmp 8]⟩
theorem Ey_ : at_ Tryz.prog Tryz.f89 Cn_ := ai_
theorem dN_ (n : ByteArray) (s : List ByteArray) (o : ByteArray) (os : List ByteArray) (hs : ao_ ByteArray.size s ≤ 1048576) (hos : ao_ ByteArray.size os ≤ 1048576) (h : List Row) :
 aa_ Tryz.prog 89 [.val (.string n), .list 0 1 (s.map am_), .val (.string o), .list 0 1 (os.map am_)] h (.val (.int .i64 (gS_ n.data.toList (bss s) o.data.toList (bss os)))) := by
 refine aj_ mixed Tryz.func89 Ey_ rfl rfl ?_ h
 simp (disch := omega) only [Cn_, c89, go_sem, Nat.reduceEqDiff, reduceCtorEq, ↓reduceIte]
 refine aa_.call (eC_ _ _ _) ?_
 simp (disch := omega) only [go_sem, Nat.reduceEqDiff, ↓reduceIte]
 refine aa_.call (eL_ _ _ hs hos _) ?_
 simp (disch := omega) only [go_sem, Nat.reduceEqDiff, ↓reduceIte]
 refine ss_ _ _ _ _ _ _ rfl ?_
 simp (disch := omega) only [go_sem, ↓reduceIte]
 exact aG_ rfl
def dT_ (xs : List ByteArray) : ByteArray := xs.getLastD (txt [])
theorem f7_ (xs : List ByteArray) (h : xs.length - 1 < xs.length) : xs[xs.length - 1] = dT_ xs := by
 have hne : xs ≠ [] := by intro e; subst e; simp at h
 rw [← getLast_eq_getElem hne, dT_, getLastD_eq_getLast?, getLast?_eq_some_getLast hne]; rfl
def bQ_ (xs : List ByteArray) : List ByteArray := xs.take (xs.length - 1)
def gv_ (xs : List ByteArray) : Bool := decide (0 < (xs.length : Int)) && (bh_ xs || (decide (dT_ xs = txt []) && bh_ (bQ_ xs)))
def vQ_ : LC :=
 .seq (.ops [.s 2 (.mov (.const (.bool false)))]) (.seq (.ops [.m 4 0, .ll 5 4, .m 3 5]) (.seq (.ops [.m 6 3, .bk 7 .gtr false 6 0, .m 8 7, .g 9 8 true (.mov (.tmp 0)), .g 10 8 true (.call 143 [.tmp 9]), .g 11 8 true
 (.mov (.tmp 10)), .g 12 11 false (.mov (.tmp 0)), .g 13 11 false (.mov (.tmp 3)), .g 14 11 false (.bin .sub false (.tmp 13) (.const (.int .i64 1))), .g 15 11 false (.indexAddr 1 (.tmp 12) (.tmp 14)), .g 16 11 false
 (.load none (.tmp 15)), .g 17 11 false (.bin .eql false (.tmp 16) (.const (.string ⟨#[]⟩))), .g 18 11 false (.mov (.tmp 17)), .g 19 18 true (.mov (.tmp 0)), .g 20 18 true (.mov (.tmp 3)), .g 21 18 true (.bin .sub false
 (.tmp 20) (.const (.int .i64 1))), .g 22 18 true (.sliceSl 1 (.tmp 19) none (some (.tmp 21))), .g 23 18 true (.call 143 [.tmp 22]), .g 24 11 false (.pick (.tmp 18) (.tmp 23) (.const (.bool false))), .g 25 8 true (.pick
 (.tmp 11) (.const (.bool true)) (.tmp 24)), .pf 26 8 25, .m 2 26]) .ret))
def rX_ : LF := ⟨1, 27, vQ_, [.tmp 2]⟩
theorem zo_ : at_ Tryz.prog Tryz.f142 rX_ := ai_
theorem hz_ (xs : List ByteArray) (hx : xs.length ≤ 1048576) (h : List Row) : aa_ Tryz.prog 142 [.list 0 1 (xs.map am_)] h (.val (.bool (gv_ xs))) := by
 refine aj_ mixed Tryz.func142 zo_ rfl rfl ?_ h
 by_cases h0 : xs.length = 0
 ·have h0' : ((0 : Int) < xs.length) = False := eq_false (by omega)
  simp (disch := omega) only [rX_, vQ_, h0', go_sem, Nat.reduceEqDiff, reduceCtorEq, ↓reduceIte]
  exact ae_ (by simp [gv_, h0])
 ·have h0' : ((0 : Int) < xs.length) = True := eq_true (by omega)
  have hsub : ((xs.length : Int) - 1) = ((xs.length - 1 : Nat) : Int) := by omega
  have hlt : xs.length - 1 < xs.length := by omega
  have hfr : xs.take (xs.length - 1) = bQ_ xs := rfl
  have hfl : (bQ_ xs).length ≤ 1048576 := by rw [bQ_, length_take]; omega
  have hw : IntKind.i64.wrap ((xs.length : Int) - 1) = ((xs.length - 1 : Nat) : Int) := by rw [aq_ (n := (xs.length : Int) - 1) (by omega) (by omega)]; omega
  simp (disch := omega) only [rX_, vQ_, h0', go_sem, Nat.reduceEqDiff, reduceCtorEq, ↓reduceIte]
  repeat' (first
   | exact af_ _ _
   | (refine ae_ ?_; simp only [gv_, *, Bool.true_and, Bool.and_false, Bool.false_and, Bool.true_or, Bool.false_or, decide_true, Bool.and_self, Bool.or_self]; done)
   | simp (disch := omega) only [hw, fh_, hfr, f7_, am_, go_sem, Nat.reduceEqDiff, reduceCtorEq, ↓reduceIte]
   | (refine aa_.call (cc_ _ hx _) ?_)
   | (refine aa_.q (cc_ _ hx _) ?_)
   | (refine aa_.call (cc_ _ hfl _) ?_)
   | (refine aa_.q (cc_ _ hfl _) ?_)
   | ((first | (apply aS_; assumption) | (apply aT_; assumption) | (apply a8_; assumption) | (apply a9_; assumption)); intro hb; try simp only [hb])
   | ((first | (apply aF_; assumption) | (apply aE_; assumption) | (apply aN_; assumption) | (apply aO_; assumption)); intro hb; try simp only [hb])
   | ((first | apply az_ | apply aC_ | apply ak_ | apply an_) <;> intro hb <;> (try simp only [hb]) <;> (first | have hp := aV_ hb | have hp := aU_ hb | have hp := aW_ hb | have hp := aX_ hb | skip)))
def bx_ (x : ab_) : Bool := bV_ x.Name && bi_ x && (if x.Kind = 5 then decide ((x.Subs.length : Int) ≤ 4) && gv_ x.Subs else bh_ x.Subs)
def c92 : LC :=
 .seq (.ops [.s 1 (.box 79 (.tmp 0)), .s 2 (.mov (.const (.bool false)))]) (.seq (.seq (.ops [.fa 3 1 1, .ln 4 3, .c1 5 140 4, .nt 6 5, .m 7 6, .g 8 7 false (.load (some 5) (.tmp 1)), .g 9 7 false (.call 141 [.tmp 8]), .g
 10 7 false (.un .not (.tmp 9)), .pt 11 7 10]) (.cond (.tmp 11) (.seq (.ops [.s 2 (.mov (.const (.bool false)))]) .ret) .skip)) (.seq (.seq (.ops [.fa 12 0 1, .ln 13 12, .bk 14 .eql false 13 5]) (.cond (.tmp 14) (.seq
 (.ops [.fa 15 2 1, .ln 16 15, .ll 17 16, .bk 18 .leq false 17 4, .m 19 18, .g 20 19 true (.fieldAddr 2 (.tmp 1)), .g 21 19 true (.load none (.tmp 20)), .g 22 19 true (.call 142 [.tmp 21]), .pf 23 19 22, .m 2 23]) .ret)
 .skip)) (.seq (.ops [.fa 24 2 1, .ln 25 24, .c1 26 143 25, .m 2 26]) .ret)))
def u6_ : LF := ⟨1, 27, c92, [.tmp 2]⟩
theorem DR_ : at_ Tryz.prog Tryz.f92 u6_ := ai_
theorem iE_ (x : ab_) (hx : ab_.sz x ≤ 1048576) (h : List Row) : aa_ Tryz.prog 92 [.agg (ab_.cells x)] h (.val (.bool (bx_ x))) := by
 refine aj_ mixed Tryz.func92 DR_ rfl rfl ?_ h
 have h1 := ab_.sz_Name hx
 have h2 := ax_ (ab_.sz_Subs hx)
 by_cases k5 : x.Kind = 5
 ·simp (disch := omega) only [u6_, c92, ab_.cells, k5, go_sem, Nat.reduceEqDiff, Nat.reduceAdd, ↓reduceIte]
  have hN : bx_ x = (bV_ x.Name && bi_ x && (decide ((x.Subs.length : Int) ≤ 4) && gv_ x.Subs)) := by rw [bx_, if_pos k5]
  have hR := fun h => f0_ x hx h
  simp only [ab_.cells, k5] at hR
  repeat' (first
   | exact af_ _ _
   | (refine ae_ ?_; rw [hN]; simp only [*, Bool.true_and, Bool.and_false, Bool.false_and, decide_true, decide_false, Bool.and_self]; done)
   | simp (disch := omega) only [go_sem, Nat.reduceEqDiff, Nat.reduceAdd, ↓reduceIte]
   | (refine aa_.call (dG_ _ h1 _) ?_)
   | (refine aa_.q (dG_ _ h1 _) ?_)
   | (refine aa_.call (hR _) ?_)
   | (refine aa_.q (hR _) ?_)
   | (refine aa_.call (hz_ _ h2 _) ?_)
   | (refine aa_.q (hz_ _ h2 _) ?_)
   | ((first | (apply aS_; assumption) | (apply aT_; assumption) | (apply a8_; assumption) | (apply a9_; assumption)); intro hb; try simp only [hb])
   | ((first | (apply aF_; assumption) | (apply aE_; assumption) | (apply aN_; assumption) | (apply aO_; assumption)); intro hb; try simp only [hb])
   | ((first | apply az_ | apply aC_ | apply ak_ | apply an_) <;> intro hb <;> (try simp only [hb]) <;> (first | have hp := aV_ hb | have hp := aU_ hb | have hp := aW_ hb | have hp := aX_ hb | skip)))
 ·have hN : bx_ x = (bV_ x.Name && bi_ x && bh_ x.Subs) := by rw [bx_, if_neg k5]
  simp (disch := omega) only [u6_, c92, ab_.cells, go_sem, Nat.reduceEqDiff, Nat.reduceAdd, ↓reduceIte]
  repeat' (first
   | exact af_ _ _
   | (refine ae_ ?_; rw [hN]; simp only [*, Bool.true_and, Bool.and_false, Bool.false_and, Bool.and_self]; done)
   | simp (disch := omega) only [k5, go_sem, Nat.reduceEqDiff, Nat.reduceAdd, ↓reduceIte]
   | (refine aa_.call (dG_ _ h1 _) ?_)
   | (refine aa_.q (dG_ _ h1 _) ?_)
   | (refine aa_.call (f0_ x hx _) ?_)
   | (refine aa_.q (f0_ x hx _) ?_)
   | (refine aa_.call (cc_ _ h2 _) ?_)
   | (refine aa_.q (cc_ _ h2 _) ?_)
   | ((first | (apply aS_; assumption) | (apply aT_; assumption) | (apply a8_; assumption) | (apply a9_; assumption)); intro hb; try simp only [hb])
   | ((first | (apply aF_; assumption) | (apply aE_; assumption) | (apply aN_; assumption) | (apply aO_; assumption)); intro hb; try simp only [hb])
   | ((first | apply az_ | apply aC_ | apply ak_ | apply an_) <;> intro hb <;> (try simp only [hb]) <;> (first | have hp := aV_ hb | have hp := aU_ hb | have hp := aW_ hb | have hp := aX_ hb | skip)))
def bF_ (x : ab_) : Bool := decide (x.Kind = 1) || decide (x.Kind = 4) || decide (x.Kind = 5) || decide (x.Kind = 6)
def cd_ (x : ab_) : Bool := decide (x.Kind = 2) || decide (x.Kind = 3)
def c81 : LC :=
 .seq (.ops [.s 1 (.box 79 (.tmp 0)), .s 2 (.mov (.const (.bool false)))]) (.seq (.ops [.fa 3 0 1, .ln 4 3, .bk 5 .eql false 4 1, .m 6 5, .g 7 6 false (.fieldAddr 0 (.tmp 1)), .g 8 6 false (.load none (.tmp 7)), .g 9 6
 false (.bin .eql false (.tmp 8) (.const (.int .i64 4))), .pt 10 6 9, .m 11 10, .g 12 11 false (.fieldAddr 0 (.tmp 1)), .g 13 11 false (.load none (.tmp 12)), .g 14 11 false (.bin .eql false (.tmp 13) (.const (.int .i64
 5))), .pt 15 11 14, .m 16 15, .g 17 16 false (.fieldAddr 0 (.tmp 1)), .g 18 16 false (.load none (.tmp 17)), .g 19 16 false (.bin .eql false (.tmp 18) (.const (.int .i64 6))), .pt 20 16 19, .m 2 20]) .ret)
def Cu_ : LF := ⟨1, 21, c81, [.tmp 2]⟩
theorem DP_ : at_ Tryz.prog Tryz.f81 Cu_ := ai_
theorem iD_ (x : ab_)  (h : List Row) : aa_ Tryz.prog 81 [.agg (ab_.cells x)] h (.val (.bool (bF_ x))) := by
 refine aj_ mixed Tryz.func81 DP_ rfl rfl ?_ h
 simp (disch := omega) only [Cu_, c81, ab_.cells, go_sem, Nat.reduceEqDiff, Nat.reduceAdd, ↓reduceIte]
 repeat' (first
  | exact af_ _ _
  | (refine ae_ ?_; simp [bF_, *]; done)
  | simp (disch := omega) only [go_sem, Nat.reduceEqDiff, ↓reduceIte]
  | ((first | (apply aS_; assumption) | (apply aT_; assumption) | (apply a8_; assumption) | (apply a9_; assumption)); intro hb; try simp only [hb])
  | ((first | (apply aF_; assumption) | (apply aE_; assumption) | (apply aN_; assumption) | (apply aO_; assumption)); intro hb; try simp only [hb])
  | ((first | apply az_ | apply aC_ | apply ak_ | apply an_) <;> intro hb <;> (try simp only [hb]) <;> (first | have hp := aV_ hb | have hp := aU_ hb | have hp := aW_ hb | have hp := aX_ hb | skip)))
def Cp_ : LC :=
 .seq (.ops [.s 1 (.box 79 (.tmp 0)), .s 2 (.mov (.const (.bool false)))]) (.seq (.ops [.fa 3 0 1, .ln 4 3, .bk 5 .eql false 4 2, .m 6 5, .g 7 6 false (.fieldAddr 0 (.tmp 1)), .g 8 6 false (.load none (.tmp 7)), .g 9 6
 false (.bin .eql false (.tmp 8) (.const (.int .i64 3))), .pt 10 6 9, .m 2 10]) .ret)
def w9_ : LF := ⟨1, 11, Cp_, [.tmp 2]⟩
theorem BP_ : at_ Tryz.prog Tryz.f120 w9_ := ai_
theorem mo_ (x : ab_)  (h : List Row) : aa_ Tryz.prog 120 [.agg (ab_.cells x)] h (.val (.bool (cd_ x))) := by
 refine aj_ mixed Tryz.func120 BP_ rfl rfl ?_ h
 simp (disch := omega) only [w9_, Cp_, ab_.cells, go_sem, Nat.reduceEqDiff, Nat.reduceAdd, ↓reduceIte]
 repeat' (first
  | exact af_ _ _
  | (refine ae_ ?_; simp [cd_, *]; done)
  | simp (disch := omega) only [go_sem, Nat.reduceEqDiff, ↓reduceIte]
  | ((first | (apply aS_; assumption) | (apply aT_; assumption) | (apply a8_; assumption) | (apply a9_; assumption)); intro hb; try simp only [hb])
  | ((first | (apply aF_; assumption) | (apply aE_; assumption) | (apply aN_; assumption) | (apply aO_; assumption)); intro hb; try simp only [hb])
  | ((first | apply az_ | apply aC_ | apply ak_ | apply an_) <;> intro hb <;> (try simp only [hb]) <;> (first | have hp := aV_ hb | have hp := aU_ hb | have hp := aW_ hb | have hp := aX_ hb | skip)))
def c94 : LC :=
 .seq (.ops [.s 1 (.box 79 (.tmp 0)), .s 2 (.mov (.const (.bool false)))]) (.seq (.ops [.fa 3 0 1, .ln 4 3, .bk 5 .eql false 4 2, .m 6 5, .g 7 6 false (.fieldAddr 0 (.tmp 1)), .g 8 6 false (.load none (.tmp 7)), .g 9 6
 false (.bin .eql false (.tmp 8) (.const (.int .i64 3))), .pt 10 6 9, .m 2 10]) .ret)
def Bo_ : LF := ⟨1, 11, c94, [.tmp 2]⟩
theorem Eq_ : at_ Tryz.prog Tryz.f94 Bo_ := ai_
theorem nc_ (x : ab_)  (h : List Row) : aa_ Tryz.prog 94 [.agg (ab_.cells x)] h (.val (.bool (cd_ x))) := by
 refine aj_ mixed Tryz.func94 Eq_ rfl rfl ?_ h
 simp (disch := omega) only [Bo_, c94, ab_.cells, go_sem, Nat.reduceEqDiff, Nat.reduceAdd, ↓reduceIte]
 repeat' (first
  | exact af_ _ _
  | (refine ae_ ?_; simp [cd_, *]; done)
  | simp (disch := omega) only [go_sem, Nat.reduceEqDiff, ↓reduceIte]
  | ((first | (apply aS_; assumption) | (apply aT_; assumption) | (apply a8_; assumption) | (apply a9_; assumption)); intro hb; try simp only [hb])
  | ((first | (apply aF_; assumption) | (apply aE_; assumption) | (apply aN_; assumption) | (apply aO_; assumption)); intro hb; try simp only [hb])
  | ((first | apply az_ | apply aC_ | apply ak_ | apply an_) <;> intro hb <;> (try simp only [hb]) <;> (first | have hp := aV_ hb | have hp := aU_ hb | have hp := aW_ hb | have hp := aX_ hb | skip)))
def cE_ (x : ab_) : Bool := bV_ x.Name && (if x.Kind = 5 then decide (0 < (x.Subs.length : Int)) && decide ((x.Subs.length : Int) ≤ 4) && bh_ (bQ_ x.Subs) && (decide (dT_ x.Subs = txt []) || bR_ (dT_ x.Subs)) else bh_ x.Subs)
def pK_ : LC :=
 .seq (.ops [.s 1 (.box 79 (.tmp 0)), .s 2 (.mov (.const (.bool false)))]) (.seq (.seq (.ops [.fa 4 1 1, .ln 5 4, .c1 6 158 5, .nt 7 6]) (.cond (.tmp 7) (.seq (.ops [.s 2 (.mov (.const (.bool false)))]) .ret) .skip))
 (.seq (.seq (.ops [.fa 8 0 1, .ln 9 8, .bk 10 .neq false 9 5]) (.cond (.tmp 10) (.seq (.ops [.fa 11 2 1, .ln 12 11, .c1 13 125 12, .m 2 13]) .ret) .skip)) (.seq (.ops [.fa 14 2 1, .ln 15 14, .ll 16 15, .m 3 16]) (.seq
 (.seq (.ops [.m 17 3, .bk 18 .lss false 17 1, .m 19 18, .g 20 19 false (.mov (.tmp 3)), .g 21 19 false (.bin .gtr false (.tmp 20) (.const (.int .i64 4))), .pt 22 19 21, .m 23 22, .g 24 23 false (.fieldAddr 2 (.tmp 1)),
 .g 25 23 false (.load none (.tmp 24)), .g 26 23 false (.mov (.tmp 3)), .g 27 23 false (.bin .sub false (.tmp 26) (.const (.int .i64 1))), .g 28 23 false (.sliceSl 1 (.tmp 25) none (some (.tmp 27))), .g 29 23 false (.call
 125 [.tmp 28]), .g 30 23 false (.un .not (.tmp 29)), .pt 31 23 30]) (.cond (.tmp 31) (.seq (.ops [.s 2 (.mov (.const (.bool false)))]) .ret) .skip)) (.seq (.ops [.fa 32 2 1, .ln 33 32, .m 34 3, .bk 35 .sub false 34 1,
 .ia 36 1 33 35, .ln 37 36, .s 38 (.bin .eql false (.tmp 37) (.const (.string ⟨#[]⟩))), .m 39 38, .g 40 39 false (.fieldAddr 2 (.tmp 1)), .g 41 39 false (.load none (.tmp 40)), .g 42 39 false (.mov (.tmp 3)), .g 43 39
 false (.bin .sub false (.tmp 42) (.const (.int .i64 1))), .g 44 39 false (.indexAddr 1 (.tmp 41) (.tmp 43)), .g 45 39 false (.load none (.tmp 44)), .g 46 39 false (.call 123 [.tmp 45]), .pt 47 39 46, .m 2 47]) .ret)))))
def m6_ : LF := ⟨1, 48, pK_, [.tmp 2]⟩
theorem Aq_ : at_ Tryz.prog Tryz.f121 m6_ := ai_
theorem ma_ (x : ab_) (hx : ab_.sz x ≤ 1048576) (h : List Row) : aa_ Tryz.prog 121 [.agg (ab_.cells x)] h (.val (.bool (cE_ x))) := by
 refine aj_ mixed Tryz.func121 Aq_ rfl rfl ?_ h
 have h1 := ab_.sz_Name hx
 have h2 := ax_ (ab_.sz_Subs hx)
 by_cases k5 : x.Kind = 5
 case neg =>
  have hN : cE_ x = (bV_ x.Name && bh_ x.Subs) := by rw [cE_, if_neg k5]
  simp (disch := omega) only [m6_, pK_, ab_.cells, go_sem, Nat.reduceEqDiff, Nat.reduceAdd, ↓reduceIte]
  repeat' (first
   | exact af_ _ _
   | (refine ae_ ?_; rw [hN]; simp only [*, Bool.true_and, Bool.false_and]; done)
   | simp (disch := omega) only [k5, go_sem, Nat.reduceEqDiff, ↓reduceIte]
   | (refine aa_.call (bO_ _ h1 _) ?_)
   | (refine aa_.q (bO_ _ h1 _) ?_)
   | (refine aa_.call (bM_ _ h2 _) ?_)
   | (refine aa_.q (bM_ _ h2 _) ?_)
   | ((first | (apply aS_; assumption) | (apply aT_; assumption) | (apply a8_; assumption) | (apply a9_; assumption)); intro hb; try simp only [hb])
   | ((first | (apply aF_; assumption) | (apply aE_; assumption) | (apply aN_; assumption) | (apply aO_; assumption)); intro hb; try simp only [hb])
   | ((first | apply az_ | apply aC_ | apply ak_ | apply an_) <;> intro hb <;> (try simp only [hb]) <;> (first | have hp := aV_ hb | have hp := aU_ hb | have hp := aW_ hb | have hp := aX_ hb | skip)))
 have hN : cE_ x = (bV_ x.Name && (decide (0 < (x.Subs.length : Int)) && decide ((x.Subs.length : Int) ≤ 4) && bh_ (bQ_ x.Subs) && (decide (dT_ x.Subs = txt []) || bR_ (dT_ x.Subs)))) := by rw [cE_, if_pos k5]
 by_cases h0 : x.Subs.length = 0
 ·have h0' : ((0 : Int) < x.Subs.length) = False := eq_false (by omega)
  have h0'' : ((x.Subs.length : Int) < 1) = True := eq_true (by omega)
  simp (disch := omega) only [m6_, pK_, ab_.cells, k5, go_sem, Nat.reduceEqDiff, Nat.reduceAdd, ↓reduceIte]
  repeat' (first
   | exact af_ _ _
   | (refine ae_ ?_; rw [hN]; simp [h0]; done)
   | (refine ae_ ?_; rw [hN]; simp only [*, Bool.and_true, Bool.true_and, Bool.and_false, Bool.false_and, Bool.or_true, Bool.true_or, Bool.or_false, Bool.false_or, Bool.not_true, Bool.not_false, decide_true, decide_false, Bool.and_self, Bool.or_self]; done)
   | simp (disch := omega) only [h0'', go_sem, Nat.reduceEqDiff, ↓reduceIte]
   | (refine aa_.call (bO_ _ h1 _) ?_)
   | (refine aa_.q (bO_ _ h1 _) ?_)
   | ((first | (apply aS_; assumption) | (apply aT_; assumption) | (apply a8_; assumption) | (apply a9_; assumption)); intro hb; try simp only [hb])
   | ((first | (apply aF_; assumption) | (apply aE_; assumption) | (apply aN_; assumption) | (apply aO_; assumption)); intro hb; try simp only [hb])
   | ((first | apply az_ | apply aC_ | apply ak_ | apply an_) <;> intro hb <;> (try simp only [hb]) <;> (first | have hp := aV_ hb | have hp := aU_ hb | have hp := aW_ hb | have hp := aX_ hb | skip)))
 ·have h0' : ((0 : Int) < x.Subs.length) = True := eq_true (by omega)
  have h0'' : ((x.Subs.length : Int) < 1) = False := eq_false (by omega)
  have hlt : x.Subs.length - 1 < x.Subs.length := by omega
  have hfr : x.Subs.take (x.Subs.length - 1) = bQ_ x.Subs := rfl
  have hfl : (bQ_ x.Subs).length ≤ 1048576 := by rw [bQ_, length_take]; omega
  have hw : IntKind.i64.wrap ((x.Subs.length : Int) - 1) = ((x.Subs.length - 1 : Nat) : Int) := by rw [aq_ (n := (x.Subs.length : Int) - 1) (by omega) (by omega)]; omega
  by_cases q4 : (x.Subs.length : Int) ≤ 4
  ·have q4' : ((4 : Int) < x.Subs.length) = False := eq_false (by omega)
   simp (disch := omega) only [m6_, pK_, ab_.cells, k5, go_sem, Nat.reduceEqDiff, Nat.reduceAdd, ↓reduceIte]
   repeat' (first
    | exact af_ _ _
    | (refine ae_ ?_; rw [hN]; simp only [*, Bool.true_and, Bool.and_false, Bool.false_and, Bool.true_or, Bool.false_or, decide_true, Bool.and_self]; done)
    | simp (disch := omega) only [h0'', q4', hw, fh_, hfr, f7_, am_, go_sem, Nat.reduceEqDiff, ↓reduceIte]
    | (refine aa_.call (bO_ _ h1 _) ?_)
    | (refine aa_.q (bO_ _ h1 _) ?_)
    | (refine aa_.call (bM_ _ hfl _) ?_)
    | (refine aa_.q (bM_ _ hfl _) ?_)
    | (refine aa_.call (dY_ _ _) ?_)
    | (refine aa_.q (dY_ _ _) ?_)
    | ((first | (apply aS_; assumption) | (apply aT_; assumption) | (apply a8_; assumption) | (apply a9_; assumption)); intro hb; try simp only [hb])
    | ((first | (apply aF_; assumption) | (apply aE_; assumption) | (apply aN_; assumption) | (apply aO_; assumption)); intro hb; try simp only [hb])
    | ((first | apply az_ | apply aC_ | apply ak_ | apply an_) <;> intro hb <;> (try simp only [hb]) <;> (first | have hp := aV_ hb | have hp := aU_ hb | have hp := aW_ hb | have hp := aX_ hb | skip)))
  ·have q4' : ((4 : Int) < x.Subs.length) = True := eq_true (by omega)
   simp (disch := omega) only [m6_, pK_, ab_.cells, k5, go_sem, Nat.reduceEqDiff, Nat.reduceAdd, ↓reduceIte]
   repeat' (first
    | exact af_ _ _
    | (refine ae_ ?_; rw [hN]; simp only [*, Bool.and_false, Bool.false_and, decide_true, decide_false, Bool.and_self]; done)
    | simp (disch := omega) only [h0'', q4', go_sem, Nat.reduceEqDiff, ↓reduceIte]
    | (refine aa_.call (bO_ _ h1 _) ?_)
    | (refine aa_.q (bO_ _ h1 _) ?_)
    | ((first | (apply aS_; assumption) | (apply aT_; assumption) | (apply a8_; assumption) | (apply a9_; assumption)); intro hb; try simp only [hb])
    | ((first | (apply aF_; assumption) | (apply aE_; assumption) | (apply aN_; assumption) | (apply aO_; assumption)); intro hb; try simp only [hb])
    | ((first | apply az_ | apply aC_ | apply ak_ | apply an_) <;> intro hb <;> (try simp only [hb]) <;> (first | have hp := aV_ hb | have hp := aU_ hb | have hp := aW_ hb | have hp := aX_ hb | skip)))
end Go.Proofs.YtfplhbjggecnpaaGreatDoor
