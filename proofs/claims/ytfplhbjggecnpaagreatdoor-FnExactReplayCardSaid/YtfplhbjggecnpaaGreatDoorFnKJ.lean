/-
 Contracts of functions of this program, over abstract values. Conditions: as each theorem says.
-/
import Derived.Test.YtfplhbjggecnpaaGreatDoorFnKD
import Derived.Test.YtfplhbjggecnpaaGreatDoorPlKey
import Derived.Test.YtfplhbjggecnpaaGreatDoorAwC
namespace Go.Proofs.YtfplhbjggecnpaaGreatDoor
open Go.AW
set_option linter.unusedVariables false
set_option linter.unusedSimpArgs false
set_option maxRecDepth 4000
abbrev d4_ (out : List (List UInt8)) : List (List AV) := (out.map txt).map aj_
theorem o4_ (out : List (List UInt8)) : bss (out.map txt) = out := by
 rw [bss, List.map_map]
 conv => rhs; rw [← List.map_id out]
 exact List.map_congr_left fun x _ => bZ_ x
theorem d7_ (out : List (List UInt8)) : bc_ (out.map txt) = eA_ out := by
 rw [Bool.eq_iff_iff]
 simp only [bc_, eA_, bL_, Cg_, List.length_map, List.all_map, Bool.and_eq_true, decide_eq_true_eq, List.all_eq_true, Function.comp, b0_]
 constructor
 ·rintro ⟨h1, h2⟩
  exact ⟨by omega, fun x hx => by have := h2 x hx; omega⟩
 ·rintro ⟨h1, h2⟩
  exact ⟨by omega, fun x hx => by have := h2 x hx; omega⟩
theorem fN_ (l : List UInt8) (h : 0 < l.length) : dJ_ l = if l[0] = 1 then mZ_ (l.drop 1) else if l[0] = 2 then cn_ (l.drop 1) [] else none := by
 cases l with
 | nil => simp at h
 | cons b l => rfl
theorem iz_ : kp_ none = .tup [.val (.string (txt [])), .val (.string (txt [])), .val (.bool false)] := rfl
theorem in_ (t r : List UInt8) : kp_ (some (t, r)) = .tup [.val (.string (txt t)), .val (.string (txt r)), .val (.bool true)] := rfl
def dK_ (s : ByteArray) : List ByteArray × Bool :=
 match fO_ dJ_ (bs s) with
 | some xs => (xs.map txt, true)
 | none => ([], false)
abbrev oC_ (p : List ByteArray × Bool) : AV := .tup [.list 0 1 (p.1.map aj_), .val (.bool p.2)]
theorem jW_ {s : ByteArray} (h : cO_ dJ_ 5 (bs s) [] = none) : dK_ s = ([], false) := by
 rw [dK_, fO_, h]
theorem ns_ {s : ByteArray} {out : List (List UInt8)} {left : List UInt8} (h : cO_ dJ_ 5 (bs s) [] = some (out, left)) (q : ¬ (left = [] ∧ eA_ out = true ∧ cK_ out = bs s)) : dK_ s = ([], false) := by
 rw [dK_, fO_, h]; simp only; rw [if_neg q]
theorem ub_ {s : ByteArray} {out : List (List UInt8)} (h : cO_ dJ_ 5 (bs s) [] = some (out, [])) (h2 : eA_ out = true) (h3 : cK_ out = bs s) : dK_ s = (out.map txt, true) := by
 simp [dK_, fO_, h, h2, h3]
theorem sE_ {out : List (List UInt8)} (h : eA_ out = true) : out.length ≤ 4 := by
 simp only [eA_, Bool.and_eq_true, decide_eq_true_eq] at h; exact h.1
theorem oe_ (out : List (List UInt8)) : ∀ e ∈ d4_ out, e.all AV.flat = true := by
 intro e he
 obtain ⟨x, _, q⟩ := List.mem_map.1 he; subst q; rfl
theorem oR_ (h0 : List Row) (out : List (List UInt8)) (rest : List Row) : [AV.own h0.length out.length].mapM (AW.resolve (h0 ++ ⟨9, 1, d4_ out⟩ :: rest) 2) = some [.list 0 1 (d4_ out)] :=
 oH_ (kK_ (n := 0) (r := ⟨9, 1, d4_ out⟩) (by rw [cw_]; rfl) (by simp) (oe_ out))
theorem fg_ {base l : Nat} {H : List Row} {E : Tag} {out : List ByteArray} (hl : H[l]? = some ⟨E, 1, out.map aj_⟩) (hb : base ≤ l) : ax_ base (l + 1) H (.own l out.length) (.list 0 1 (out.map aj_)) :=
 ax_.mkown (lo := l + 1) (hi := l + 1) (bx_.ofVals _ _ _ _ (by
  intro e he c hc
  obtain ⟨x, _, q⟩ := List.mem_map.1 he; subst q
  simp only [aj_, List.mem_singleton] at hc
  exact ⟨_, hc⟩)) hl (by simp) hb (Nat.lt_succ_self _) (Nat.le_refl _)
theorem cV_ {lo hi : Nat} {H : List Row} {a r : AV} (h : ax_ lo hi H a r) (hlh : lo ≤ hi) (v : Value) : ec_ lo H (.tup [a, .val v]) (.tup [r, .val v]) :=
 (ax_.tup (al_.cons h (al_.val v (al_.nil hi hi H)) ⟨hlh, Nat.le_refl _⟩)).fresh
theorem sC_ {out : List (List UInt8)} (h : eA_ out = true) : it_ (out.map txt) = cK_ out := by
 rw [it_, d7_, if_pos h, o4_]
theorem n6_ (take : List UInt8 → Option (List UInt8 × List UInt8)) (f : Nat) (l : List UInt8) (out : List (List UInt8)) (h : l ≠ []) : cO_ take (f + 1) l out = match take l with
 | none => none
 | some (t, r) => cO_ take f r (out ++ [t]) := by
 rw [cO_, if_neg h]; cases take l <;> rfl
theorem k5_ (l : List UInt8) : (txt l = txt []) = (l = []) := qR_ l []
def yB_ : LC :=
 .seq (.ops [.s 2 (.mov (.const (.slice none 0 0))), .s 3 (.mov (.const (.bool false)))]) (.seq (.ops [.s 8 (.buildSlice 9 1 (.string ⟨#[]⟩) 0 []), .m 9 0, .m 4 8, .m 5 9]) (.seq (.block 0 (.loop (.seq (.seq (.ops [.m 10
 5, .s 11 (.bin .neq false (.tmp 10) (.const (.string ⟨#[]⟩))), .m 12 11, .g 13 12 true (.mov (.tmp 4)), .g 14 12 true (.lenSl (.tmp 13)), .g 15 12 true (.bin .leq false (.tmp 14) (.const (.int .i64 4))), .pf 16 12 15])
 (.cond (.tmp 16) .skip (.exit 0))) (.block 1 (.seq (.ops [.s 6 (.mov (.const (.string ⟨#[]⟩)))]) (.seq (.ops [.s 7 (.mov (.const (.bool false)))]) (.seq (.seq (.ops [.m 17 5, .s 18 (.indexStr (.tmp 17) (.const (.int .i64
 0)))]) (.block 2 (.seq (.ops [.s 20 (.bin .eql false (.tmp 18) (.const (.int .u8 1))), .m 19 20]) (.cond (.tmp 19) (.ops [.m 22 5, .s 23 (.sliceStr (.tmp 22) (some (.const (.int .i64 1))) none), .c1 24 207 23, .m 21 24,
 .ex 25 21 0, .ex 26 21 1, .ex 27 21 2, .m 6 25, .m 5 26, .m 7 27]) (.seq (.ops [.s 29 (.bin .eql false (.tmp 18) (.const (.int .u8 2))), .m 28 29]) (.cond (.tmp 28) (.ops [.m 31 5, .s 32 (.sliceStr (.tmp 31) (some
 (.const (.int .i64 1))) none), .c1 33 208 32, .m 30 33, .ex 34 30 0, .ex 35 30 1, .ex 36 30 2, .m 6 34, .m 5 35, .m 7 36]) .skip)))))) (.seq (.seq (.ops [.m 37 7, .nt 38 37]) (.cond (.tmp 38) (.seq (.ops [.s 2 (.mov
 (.const (.slice none 0 0))), .s 3 (.mov (.const (.bool false)))]) .ret) .skip)) (.ops [.m 39 4, .m 40 6, .s 41 (.buildSlice 9 1 (.string ⟨#[]⟩) 1 [(0, .tmp 40)]), .ap 42 9 1 16 39 41, .m 4 42]))))))))) (.seq (.seq (.ops
 [.m 43 4, .c1 44 143 43, .nt 45 44, .m 46 45, .g 47 46 false (.mov (.tmp 4)), .g 48 46 false (.call 153 [.tmp 47]), .g 49 46 false (.mov (.tmp 0)), .g 50 46 false (.bin .neq false (.tmp 48) (.tmp 49)), .pt 51 46 50])
 (.cond (.tmp 51) (.seq (.ops [.s 2 (.mov (.const (.slice none 0 0))), .s 3 (.mov (.const (.bool false)))]) .ret) .skip)) (.seq (.ops [.m 52 4, .m 2 52, .s 3 (.mov (.const (.bool true)))]) .ret))))
def wl_ : LF := ⟨1, 53, yB_, [.tmp 2, .tmp 3]⟩
theorem B8_ : at_ Tryz.prog Tryz.f180 wl_ := ah_
theorem ke_ (s : ByteArray) (hs : s.size ≤ 1048576) : aL_ Tryz.prog 180 [.val (.string s)] (oC_ (dK_ s)) (fun a => ∃ b q, a = .tup [b, .val (.bool q)]) := by
 refine dE_ mixed Tryz.func180 B8_ rfl (fun h0 => ?_)
 have hbl := e9_ s
 simp (disch := omega) only [wl_, yB_, go_sem, Nat.reduceEqDiff, reduceCtorEq, ↓reduceIte]
 refine aM_ (fun n t h => ∃ (out : List (List UInt8)) (left : List UInt8) (rest : List Row), t 0 = .val (.string s) ∧ t 4 = .own h0.length out.length ∧ t 5 = .val (.string (txt left)) ∧ h = h0 ++ ⟨9, 1, d4_ out⟩ :: rest ∧ n = 5 - out.length ∧ out.length ≤ 5 ∧ left.length ≤ s.size ∧ cO_ dJ_ 5 (bs s) [] = cO_ dJ_ (5 - out.length) left out) 5 ?_ ?_
 ·exact ⟨[], bs s, [], rfl, rfl, by rw [ek_]; rfl, rfl, rfl, by simp, Nat.le_of_eq (e9_ s), rfl⟩
 rintro J hJ n t h ⟨out, left, rest, t0, t4, t5, rfl, rfl, ho, hle, hS⟩
 have fl : (d4_ out).length = out.length := by simp
 have hA := oR_ h0 out rest
 by_cases q0 : left = []
 ·subst q0
  have hR : cO_ dJ_ 5 (bs s) [] = some (out, []) := by
   rw [hS]; cases 5 - out.length with
   | zero => rw [cO_]
   | succ f => rw [cO_, if_pos rfl]
  have q0' : (txt ([] : List UInt8) = txt []) = True := by simp
  simp (disch := omega) only [t4, t5, fl, ag_, go_sem, Nat.reduceEqDiff, Nat.reduceLeDiff, Int.reduceLE, Int.reduceToNat, ↓reduceIte]
  refine aa_.call (AW.frozen (b3_ (out.map txt) (by simp; omega)) hA) ?_
  by_cases s1 : eA_ out = true
  case neg =>
   have s1' : bc_ (out.map txt) = false := by rw [d7_]; simpa using s1
   simp (disch := omega) only [t4, s1', ag_, go_sem, Nat.reduceEqDiff, ↓reduceIte]
   rw [ns_ hR (fun q => s1 q.2.1)]
   exact ⟨_, rfl, cV_ (ax_.mknil _ _ _ 1) (Nat.le_refl _) _, _, _, rfl⟩
  have s1' : bc_ (out.map txt) = true := by rw [d7_]; exact s1
  simp (disch := omega) only [t4, s1', go_sem, Nat.reduceEqDiff, ↓reduceIte]
  refine aa_.call (AW.frozen (hT_ (out.map txt) (by simp; omega)) hA) ?_
  rw [sC_ s1]
  by_cases s2 : cK_ out = bs s
  case neg =>
   have s2' : (txt (cK_ out) = s) = False := by rw [eq_iff_iff, iff_false]; intro e; exact s2 (by rw [← e]; exact (bZ_ _).symm)
   simp (disch := omega) only [t0, t4, s2', ag_, go_sem, Nat.reduceEqDiff, reduceCtorEq, ↓reduceIte]
   rw [ns_ hR (fun q => s2 q.2.2)]
   exact ⟨_, rfl, cV_ (ax_.mknil _ _ _ 1) (Nat.le_refl _) _, _, _, rfl⟩
  have s2' : (txt (cK_ out) = s) = True := by rw [s2, ek_]; simp
  simp (disch := omega) only [t0, t4, s2', ag_, go_sem, Nat.reduceEqDiff, reduceCtorEq, ↓reduceIte]
  rw [ub_ hR s1 s2]
  have hz := cV_ (fg_ (base := h0.length) (l := h0.length) (E := 9) (out := out.map txt) (H := h0 ++ ⟨9, 1, d4_ out⟩ :: rest) (by rw [cw_]; rfl) (Nat.le_refl _)) (by omega) (.bool true)
  rw [List.length_map] at hz
  exact ⟨_, rfl, hz, _, _, rfl⟩
 ·have hpos : 0 < left.length := by cases left with
   | nil => exact absurd rfl q0
   | cons b l => simp
  have q0' : (txt left = txt []) = False := by rw [k5_]; simp [q0]
  by_cases q4 : out.length ≤ 4
  ·have q4' : (out.length : Int) ≤ 4 := by omega
   have e5 : 5 - out.length = (4 - out.length) + 1 := by omega
   rw [e5, n6_ dJ_ (4 - out.length) left out q0] at hS
   have hdl : (left.drop 1).length ≤ 1048576 := by rw [List.length_drop]; omega
   by_cases q1 : left[0] = 1
   ·have q1' : ((left[0].toNat : Int) = 1) = True := by simp [q1]
    simp (disch := omega) only [t4, t5, q0', q4', q1', fl, List.take_length, ag_, go_sem, Nat.reduceEqDiff, Nat.reduceLeDiff, Int.reduceLE, Int.reduceToNat, ↓reduceIte]
    have hc := fun h => kU_ (left.drop 1) hdl h
    cases hn : mZ_ (left.drop 1) with
    | none =>
     rw [hn, iz_] at hc
     rw [fN_ left hpos, if_pos q1, hn] at hS
     refine aa_.call (hc _) ?_
     simp (disch := omega) only [t4, fl, ag_, go_sem, Nat.reduceEqDiff, Nat.reduceLeDiff, ↓reduceIte]
     rw [jW_ (by rw [hS])]
     exact ⟨_, rfl, cV_ (ax_.mknil _ _ _ 1) (Nat.le_refl _) _, _, _, rfl⟩
    | some p =>
     obtain ⟨x, r⟩ := p
     rw [hn, in_] at hc
     have hlen := nH_ left x r (by rw [fN_ left hpos, if_pos q1, hn])
     rw [fN_ left hpos, if_pos q1, hn] at hS
     refine aa_.call (hc _) ?_
     simp (disch := omega) only [t4, fl, ag_, go_sem, Nat.reduceEqDiff, Nat.reduceLeDiff, ↓reduceIte]
     refine ⟨by omega, by omega, ?_⟩
     try simp (disch := omega) only [t0, t4, t5, q0', q4', fl, ag_, go_sem, Nat.reduceEqDiff, Nat.reduceAdd, Nat.reduceLeDiff, reduceCtorEq, Int.reduceLT, Int.reduceLE, Int.reduceNeg, Int.reduceSub, Int.reduceAdd, Int.reduceToNat, ↓reduceIte]
     exact ⟨5 - (out.length + 1), by omega, hJ _ _ _ ⟨out ++ [x], r, rest ++ [⟨9, 1, [[.val (.string (txt x))]]⟩], by simp [upd, t0], by simp [upd], by simp [upd], by simp [aj_], by simp, by simp; omega, by omega, by simpa [Nat.sub_sub] using hS⟩⟩
   ·have q1' : ((left[0].toNat : Int) = 1) = False := by rw [eq_iff_iff, iff_false]; intro e; exact q1 (UInt8.toNat_inj.1 (by have h2 : (1 : UInt8).toNat = 1 := rfl; omega))
    by_cases q2 : left[0] = 2
    ·have q2' : ((left[0].toNat : Int) = 2) = True := by simp [q2]
     simp (disch := omega) only [t4, t5, q0', q4', q1', q2', fl, List.take_length, ag_, go_sem, Nat.reduceEqDiff, Nat.reduceLeDiff, Int.reduceLE, Int.reduceToNat, ↓reduceIte]
     have hc := fun h => kT_ (left.drop 1) hdl h
     cases hn : cn_ (left.drop 1) [] with
     | none =>
      rw [hn, iz_] at hc
      rw [fN_ left hpos, if_neg q1, if_pos q2, hn] at hS
      refine aa_.call (hc _) ?_
      simp (disch := omega) only [t4, fl, ag_, go_sem, Nat.reduceEqDiff, Nat.reduceLeDiff, ↓reduceIte]
      rw [jW_ (by rw [hS])]
      exact ⟨_, rfl, cV_ (ax_.mknil _ _ _ 1) (Nat.le_refl _) _, _, _, rfl⟩
     | some p =>
      obtain ⟨x, r⟩ := p
      rw [hn, in_] at hc
      have hlen := nH_ left x r (by rw [fN_ left hpos, if_neg q1, if_pos q2, hn])
      rw [fN_ left hpos, if_neg q1, if_pos q2, hn] at hS
      refine aa_.call (hc _) ?_
      simp (disch := omega) only [t4, fl, ag_, go_sem, Nat.reduceEqDiff, Nat.reduceLeDiff, ↓reduceIte]
      refine ⟨by omega, by omega, ?_⟩
      try simp (disch := omega) only [t0, t4, t5, q0', q4', fl, ag_, go_sem, Nat.reduceEqDiff, Nat.reduceAdd, Nat.reduceLeDiff, reduceCtorEq, Int.reduceLT, Int.reduceLE, Int.reduceNeg, Int.reduceSub, Int.reduceAdd, Int.reduceToNat, ↓reduceIte]
      exact ⟨5 - (out.length + 1), by omega, hJ _ _ _ ⟨out ++ [x], r, rest ++ [⟨9, 1, [[.val (.string (txt x))]]⟩], by simp [upd, t0], by simp [upd], by simp [upd], by simp [aj_], by simp, by simp; omega, by omega, by simpa [Nat.sub_sub] using hS⟩⟩
    ·have q2' : ((left[0].toNat : Int) = 2) = False := by rw [eq_iff_iff, iff_false]; intro e; exact q2 (UInt8.toNat_inj.1 (by have h2 : (2 : UInt8).toNat = 2 := rfl; omega))
     rw [fN_ left hpos, if_neg q1, if_neg q2] at hS
     simp (disch := omega) only [t4, t5, q0', q4', q1', q2', fl, List.take_length, ag_, go_sem, Nat.reduceEqDiff, Nat.reduceLeDiff, Int.reduceLE, Int.reduceToNat, ↓reduceIte]
     rw [jW_ (by rw [hS])]
     exact ⟨_, rfl, cV_ (ax_.mknil _ _ _ 1) (Nat.le_refl _) _, _, _, rfl⟩
  ·have q4' : ¬ (out.length : Int) ≤ 4 := by omega
   have e0 : 5 - out.length = 0 := by omega
   have hR : cO_ dJ_ 5 (bs s) [] = some (out, left) := by rw [hS, e0, cO_]
   have s1 : ¬ eA_ out = true := fun q => q4 (sE_ q)
   simp (disch := omega) only [t4, t5, q0', q4', fl, ag_, go_sem, Nat.reduceEqDiff, Nat.reduceLeDiff, Int.reduceLE, Int.reduceToNat, ↓reduceIte]
   refine aa_.call (AW.frozen (b3_ (out.map txt) (by simp; omega)) hA) ?_
   have s1' : bc_ (out.map txt) = false := by rw [d7_]; simpa using s1
   simp (disch := omega) only [t4, s1', ag_, go_sem, Nat.reduceEqDiff, ↓reduceIte]
   rw [ns_ hR (fun q => s1 q.2.1)]
   exact ⟨_, rfl, cV_ (ax_.mknil _ _ _ 1) (Nat.le_refl _) _, _, _, rfl⟩
theorem ij_ (s : ByteArray) (hs : s.size ≤ 1048576) (h : List Row) : aa_ Tryz.prog 180 [.val (.string s)] h (oC_ (dK_ s)) := (ke_ s hs).pure rfl h
theorem C3_ (q : Bool) (a : Int) : bb_ .shl q (.val (.int .i64 a)) (.val (.int .u64 8)) = some (.val (.int .i64 (IntKind.i64.wrap (a * 256)))) := by
 rw [qP_ _ _ _ _ _ (by decide)]; rfl
theorem or8 (q : Bool) (x b : Nat) (h : b < 256) (hx : x < 72057594037927936) : bb_ .or q (.val (.int .i64 (IntKind.i64.wrap ((IntKind.i64.wrap (x : Int)) * 256)))) (.val (.int .i64 (b : Int))) = some (.val (.int .i64 (IntKind.i64.wrap ((x * 256 + b : Nat) : Int)))) := by
 have h8 : (2 : Int) ^ (min (8 : Int).toNat 64) = 256 := by decide
 have := ya_ x b h (by omega)
 rw [h8] at this
 rw [xY_, this, Nat.mod_eq_of_lt (by omega)]
theorem Dq_ (q : Bool) (x b : Nat) (h : b < 256) (hx : x < 72057594037927936) : bb_ .or q (.val (.int .i64 (IntKind.i64.wrap ((x : Int) * 256)))) (.val (.int .i64 (b : Int))) = some (.val (.int .i64 (IntKind.i64.wrap ((x * 256 + b : Nat) : Int)))) := by
 have := or8 q x b h hx
 rwa [ap_ (n := (x : Int)) (by omega) (by omega)] at this
def yr_ : LC :=
 .seq (.ops [.ki 2 0]) (.seq (.ops [.ki 3 0]) (.seq (.seq (.ops [.ki 4 0]) (.block 0 (.loop (.seq (.seq (.ops [.m 5 4, .bk 6 .lss false 5 8]) (.cond (.tmp 6) .skip (.exit 0))) (.seq (.block 1 (.ops [.m 9 3, .s 10 (.bin
 .shl false (.tmp 9) (.const (.int .u64 8))), .m 11 0, .m 12 4, .s 13 (.indexStr (.tmp 11) (.tmp 12)), .s 14 (.convInt .i64 (.tmp 13)), .bb 15 .or false 10 14, .m 3 15])) (.ops [.m 7 4, .bk 8 .add false 7 1, .m 4 8]))))))
 (.seq (.ops [.m 16 3, .m 2 16]) .ret)))
def vG_ : LF := ⟨1, 17, yr_, [.tmp 2]⟩
theorem A3_ : at_ Tryz.prog Tryz.f195 vG_ := ah_
theorem nk_ (l : List UInt8) (hl : l.length = 8) (h : List Row) : aa_ Tryz.prog 195 [.val (.string (txt l))] h (.val (.int .i64 (IntKind.i64.wrap (ci_ 0 l)))) := by
 refine ak_ mixed Tryz.func195 A3_ rfl rfl ?_ h
 simp (disch := omega) only [vG_, yr_, go_sem]
 refine aM_ (fun n t h => ∃ k : Nat, t 0 = .val (.string (txt l)) ∧ t 3 = .val (.int .i64 (IntKind.i64.wrap (ci_ 0 (l.take k)))) ∧ t 4 = .val (.int .i64 k) ∧ h = [] ∧ n = 8 - k ∧ k ≤ 8) 8 ?_ ?_
 ·exact ⟨0, rfl, by rw [List.take_zero, oF_]; rfl, rfl, rfl, rfl, by omega⟩
 rintro J hJ n t h ⟨k, t0, t3, t4, rfl, rfl, hk⟩
 by_cases hlt : k < 8
 ·have hkl : k < l.length := by omega
  have hkI : (k : Int) < 8 := by omega
  have hb := kA_ l k (by omega)
  have hu := mz_ l[k]
  simp (disch := omega) only [t0, t3, t4, hkI, C3_, Dq_, ap_, go_sem, Nat.reduceEqDiff, reduceCtorEq, ↓reduceIte]
  exact ⟨8 - (k + 1), by omega, hJ _ _ _ ⟨k + 1, by simp [upd, t0], by rw [nU_ l k hkl]; simp [upd], by simp [upd], rfl, rfl, by omega⟩⟩
 ·have hkI : ¬ (k : Int) < 8 := by omega
  simp (disch := omega) only [t3, t4, hkI, go_sem, Nat.reduceEqDiff, ↓reduceIte]
  rw [List.take_of_length_le (by omega)]
  exact ⟨1, rfl⟩
theorem uy_ (l : List UInt8) (h : 0 < l.length) : df_ l = if l[0] = 1 ∧ 9 ≤ l.length then (if 1 ≤ ci_ 0 ((l.drop 1).take 8) ∧ ci_ 0 ((l.drop 1).take 8) ≤ 1999999999999999999 then some (bS_ ((ci_ 0 ((l.drop 1).take 8) : Int) - 1000000000000000000), (l.drop 1).drop 8) else none) else if l[0] = 2 then cn_ (l.drop 1) [] else none := by
 cases l with
 | nil => simp at h
 | cons b l =>
  have e : (9 ≤ (b :: l).length) = (8 ≤ l.length) := by simp
  rw [df_]
  simp only [e, List.getElem_cons_zero, List.drop_succ_cons, List.drop_zero]
theorem qI_ (N : Nat) (h : N < 18446744073709551616) : ej_ (IntKind.i64.wrap (N : Int)) 1 1999999999999999999 = decide (1 ≤ N ∧ N ≤ 1999999999999999999) := by
 rw [ej_, IntKind.wrap_i64, Bool.eq_iff_iff]
 simp only [Bool.and_eq_true, decide_eq_true_eq]
 omega
def yy_ : LC :=
 .seq (.ops [.s 2 (.mov (.const (.string ⟨#[]⟩))), .s 3 (.mov (.const (.string ⟨#[]⟩))), .s 4 (.mov (.const (.bool false)))]) (.seq (.seq (.ops [.m 8 0, .s 9 (.indexStr (.tmp 8) (.const (.int .i64 0))), .s 10 (.bin .eql
 false (.tmp 9) (.const (.int .u8 1))), .m 11 10, .g 12 11 true (.mov (.tmp 0)), .g 13 11 true (.lenStr (.tmp 12)), .g 14 11 true (.bin .geq false (.tmp 13) (.const (.int .i64 9))), .pf 15 11 14]) (.cond (.tmp 15) (.seq
 (.ops [.m 16 0, .s 17 (.sliceStr (.tmp 16) (some (.const (.int .i64 1))) (some (.const (.int .i64 9)))), .c1 18 195 17, .m 5 18]) (.seq (.seq (.ops [.m 19 5, .s 20 (.call 113 [.tmp 19, .const (.int .i64 1), .const (.int
 .i64 1999999999999999999)]), .nt 21 20]) (.cond (.tmp 21) (.seq (.ops [.s 2 (.mov (.const (.string ⟨#[]⟩))), .s 3 (.mov (.const (.string ⟨#[]⟩))), .s 4 (.mov (.const (.bool false)))]) .ret) .skip)) (.seq (.dops [.m 22 5,
 .bk 23 .sub false 22 1000000000000000000, .c1 24 196 23, .m 25 0, .s 26 (.sliceStr (.tmp 25) (some (.const (.int .i64 9))) none), .m 2 24, .m 3 26, .s 4 (.mov (.const (.bool true)))]) .ret))) .skip)) (.seq (.seq (.ops
 [.m 27 0, .s 28 (.indexStr (.tmp 27) (.const (.int .i64 0))), .s 29 (.bin .neq false (.tmp 28) (.const (.int .u8 2)))]) (.cond (.tmp 29) (.seq (.ops [.s 2 (.mov (.const (.string ⟨#[]⟩))), .s 3 (.mov (.const (.string
 ⟨#[]⟩))), .s 4 (.mov (.const (.bool false)))]) .ret) .skip)) (.seq (.ops [.s 30 (.buildSlice 5 1 (.int .u8 0) 0 []), .m 6 30]) (.seq (.seq (.ops [.ki 7 1]) (.block 0 (.loop (.seq (.seq (.ops [.m 31 7, .bk 32 .add false
 31 1, .m 33 0, .s 34 (.lenStr (.tmp 33)), .bb 35 .lss false 32 34]) (.cond (.tmp 35) .skip (.exit 0))) (.seq (.block 1 (.seq (.seq (.ops [.m 38 0, .m 39 7, .s 40 (.indexStr (.tmp 38) (.tmp 39)), .s 41 (.bin .neq false
 (.tmp 40) (.const (.int .u8 0)))]) (.cond (.tmp 41) (.seq (.ops [.m 42 6, .m 43 0, .m 44 7, .s 45 (.indexStr (.tmp 43) (.tmp 44)), .s 46 (.buildSlice 5 1 (.int .u8 0) 1 [(0, .tmp 45)]), .ap 47 5 1 1 42 46, .m 6 47])
 (.exit 1)) .skip)) (.seq (.seq (.ops [.m 48 0, .m 49 7, .bk 50 .add false 49 1, .s 51 (.indexStr (.tmp 48) (.tmp 50)), .s 52 (.bin .eql false (.tmp 51) (.const (.int .u8 0)))]) (.cond (.tmp 52) (.seq (.dops [.m 53 6, .s
 54 (.toStr (.tmp 53)), .m 55 0, .m 56 7, .bk 57 .add false 56 2, .s 58 (.sliceStr (.tmp 55) (some (.tmp 57)) none), .m 2 54, .m 3 58, .s 4 (.mov (.const (.bool true)))]) .ret) .skip)) (.seq (.seq (.ops [.m 59 0, .m 60 7,
 .bk 61 .add false 60 1, .s 62 (.indexStr (.tmp 59) (.tmp 61)), .s 63 (.bin .neq false (.tmp 62) (.const (.int .u8 255)))]) (.cond (.tmp 63) (.seq (.ops [.s 2 (.mov (.const (.string ⟨#[]⟩))), .s 3 (.mov (.const (.string
 ⟨#[]⟩))), .s 4 (.mov (.const (.bool false)))]) .ret) .skip)) (.seq (.ops [.m 64 6, .s 65 (.buildSlice 5 1 (.int .u8 0) 1 [(0, .const (.int .u8 0))]), .ap 66 5 1 1 64 65, .m 6 66]) (.ops [.m 67 7, .bk 68 .add false 67 1,
 .m 7 68])))))) (.ops [.m 36 7, .bk 37 .add false 36 1, .m 7 37])))))) (.seq (.ops [.s 2 (.mov (.const (.string ⟨#[]⟩))), .s 3 (.mov (.const (.string ⟨#[]⟩))), .s 4 (.mov (.const (.bool false)))]) .ret)))))
def wU_ : LF := ⟨1, 69, yy_, [.tmp 2, .tmp 3, .tmp 4]⟩
theorem yv_ : at_ Tryz.prog Tryz.f161 wU_ := ah_
theorem mF_ (l : List UInt8) (hp : 0 < l.length) (hl : l.length ≤ 1048576) (h : List Row) : aa_ Tryz.prog 161 [.val (.string (txt l))] h (kp_ (df_ l)) := by
 refine ak_ mixed Tryz.func161 yv_ rfl rfl ?_ h
 rw [uy_ l hp]
 simp (disch := omega) only [wU_, yy_, go_sem, reduceCtorEq, Int.reduceLE, ↓reduceIte]
 by_cases q1 : l[0] = 1
 ·have q1' : ((l[0].toNat : Int) = 1) = True := by simp [q1]
  have q12 : ((l[0].toNat : Int) = 2) = False := by simp [q1]
  have q2n : ¬ l[0] = 2 := by rw [q1]; decide
  by_cases q9 : 9 ≤ l.length
  ·have q9' : (9 : Int) ≤ l.length := by omega
   have e9 : List.drop 1 (List.take 9 l) = (l.drop 1).take 8 := by rw [List.drop_take]
   have e10 : List.drop 9 l = (l.drop 1).drop 8 := by rw [List.drop_drop]
   have hN := jF_ (l.drop 1)
   rw [if_pos ⟨q1, q9⟩]
   simp (disch := omega) only [q1', q9', e9, ag_, go_sem, Nat.reduceEqDiff, Nat.reduceLeDiff, reduceCtorEq, Int.reduceLE, Int.reduceToNat, ↓reduceIte]
   refine aa_.call (nk_ _ (by simp; omega) _) ?_
   simp (disch := omega) only [go_sem, ↓reduceIte]
   refine aa_.call (of_ _ _ _ _) ?_
   rw [qI_ _ hN]
   by_cases qr : 1 ≤ ci_ 0 ((l.drop 1).take 8) ∧ ci_ 0 ((l.drop 1).take 8) ≤ 1999999999999999999
   ·rw [if_pos qr]
    have qr' : decide (1 ≤ ci_ 0 ((l.drop 1).take 8) ∧ ci_ 0 ((l.drop 1).take 8) ≤ 1999999999999999999) = true := by simpa using qr
    simp (disch := omega) only [qr', ap_, List.take_length, e10, ag_, go_sem, Nat.reduceEqDiff, reduceCtorEq, Int.reduceLE, Int.reduceToNat, ↓reduceIte]
    refine aa_.q (ib_ _ (by omega) (by omega) _) ?_
    exact ⟨2, rfl⟩
   ·rw [if_neg qr]
    have qr' : decide (1 ≤ ci_ 0 ((l.drop 1).take 8) ∧ ci_ 0 ((l.drop 1).take 8) ≤ 1999999999999999999) = false := by simpa using qr
    simp (disch := omega) only [qr', ag_, go_sem, Nat.reduceEqDiff, reduceCtorEq, Int.reduceLE, Int.reduceToNat, ↓reduceIte]
    exact ⟨2, rfl⟩
  ·have q9' : ¬ (9 : Int) ≤ l.length := by omega
   rw [if_neg (fun z => q9 z.2), if_neg q2n]
   simp (disch := omega) only [q1', q9', q12, ag_, go_sem, Nat.reduceEqDiff, Nat.reduceLeDiff, reduceCtorEq, Int.reduceLE, Int.reduceToNat, ↓reduceIte]
   exact ⟨2, rfl⟩
 ·have q1' : ((l[0].toNat : Int) = 1) = False := by rw [eq_iff_iff, iff_false]; intro e; exact q1 (UInt8.toNat_inj.1 (by have h2 : (1 : UInt8).toNat = 1 := rfl; omega))
  rw [if_neg (fun z => q1 z.1)]
  by_cases q2 : l[0] = 2
  case neg =>
   have q2' : ((l[0].toNat : Int) = 2) = False := by rw [eq_iff_iff, iff_false]; intro e; exact q2 (UInt8.toNat_inj.1 (by have h2 : (2 : UInt8).toNat = 2 := rfl; omega))
   rw [if_neg q2]
   simp (disch := omega) only [q1', q2', ag_, go_sem, Nat.reduceEqDiff, Nat.reduceLeDiff, reduceCtorEq, Int.reduceLE, Int.reduceToNat, ↓reduceIte]
   exact ⟨2, rfl⟩
  have q2' : ((l[0].toNat : Int) = 2) = True := by simp [q2]
  rw [if_pos q2]
  simp (disch := omega) only [q1', q2', ag_, go_sem, Nat.reduceEqDiff, Nat.reduceLeDiff, reduceCtorEq, Int.reduceLE, Int.reduceToNat, ↓reduceIte]
  refine aM_ (fun n t h => ∃ (i : Nat) (acc : List UInt8) (rest : List Row), t 0 = .val (.string (txt l)) ∧ t 6 = .own 0 acc.length ∧ t 7 = .val (.int .i64 i) ∧ h = ⟨5, 1, bo_ acc⟩ :: rest ∧ n = l.length + 1 - i ∧ i ≤ l.length ∧ acc.length ≤ i ∧ cn_ (l.drop 1) [] = cn_ (l.drop i) acc) l.length ?_ ?_
  ·exact ⟨1, [], [], rfl, rfl, rfl, rfl, by omega, by omega, by simp, rfl⟩
  rintro J hJ n t h ⟨i, acc, rest, t0, t6, t7, rfl, rfl, hi, hac, hS⟩
  have fl := fJ_ acc
  by_cases hlt : i + 1 < l.length
  ·have hlt' : (i : Int) + 1 < l.length := by omega
   have hlt0 : i < l.length := by omega
   have ei : (i : Int) + 1 = ((i + 1 : Nat) : Int) := by omega
   have ei2 : (i : Int) + 2 = ((i + 2 : Nat) : Int) := by omega
   rw [mk_ l acc i hlt] at hS
   by_cases r0 : l[i] = 0
   ·rw [if_pos r0] at hS
    have r0' : ((l[i].toNat : Int) = 0) = True := by simp [r0]
    by_cases r1 : l[i + 1] = 0
    ·rw [if_pos r1] at hS
     have r1' : ((l[i + 1].toNat : Int) = 0) = True := by simp [r1]
     simp (disch := omega) only [t0, t6, t7, ei, ei2, hlt, r0', r1', ap_, fl, hc_, List.take_length, Option.map_some, go_sem, Nat.reduceEqDiff, reduceCtorEq, ↓reduceIte]
     rw [hS]
     exact ⟨2, rfl⟩
    ·rw [if_neg r1] at hS
     have r1' : ((l[i + 1].toNat : Int) = 0) = False := by rw [eq_iff_iff, iff_false]; intro e; exact r1 (UInt8.toNat_inj.1 (by have h2 : (0 : UInt8).toNat = 0 := rfl; omega))
     by_cases r2 : l[i + 1] = 255
     ·rw [if_pos r2] at hS
      have r2' : ((l[i + 1].toNat : Int) = 255) = True := by simp [r2]
      simp (disch := omega) only [t0, t6, t7, ei, hlt, r0', r1', r2', ap_, fl, go_sem, Nat.reduceEqDiff, Nat.reduceLeDiff, reduceCtorEq, ↓reduceIte]
      refine ⟨by omega, by omega, ?_⟩
      try simp (disch := omega) only [t0, t6, t7, ei, ei2, hlt, hlt0, r0', r1', r2', ap_, fl, go_sem, Nat.reduceEqDiff, Nat.reduceAdd, Nat.reduceLeDiff, reduceCtorEq, Int.reduceLT, Int.reduceLE, Int.reduceNeg, Int.reduceSub, Int.reduceAdd, Int.reduceToNat, ↓reduceIte]
      exact ⟨l.length + 1 - (i + 2), by omega, hJ _ _ _ ⟨i + 2, acc ++ [0], rest ++ [⟨5, 1, bo_ [0]⟩], by simp [upd, t0], by simp [upd], by simp [upd]; try omega, by simp [bo_], rfl, by omega, by simp; omega, hS⟩⟩
     ·rw [if_neg r2] at hS
      have r2' : ((l[i + 1].toNat : Int) = 255) = False := by rw [eq_iff_iff, iff_false]; intro e; exact r2 (UInt8.toNat_inj.1 (by have h2 : (255 : UInt8).toNat = 255 := rfl; omega))
      simp (disch := omega) only [t0, t7, ei, hlt, r0', r1', r2', ap_, go_sem, Nat.reduceEqDiff, reduceCtorEq, ↓reduceIte]
      rw [hS]
      exact ⟨2, rfl⟩
   ·rw [if_neg r0] at hS
    have r0' : ((l[i].toNat : Int) = 0) = False := by rw [eq_iff_iff, iff_false]; intro e; exact r0 (UInt8.toNat_inj.1 (by have h2 : (0 : UInt8).toNat = 0 := rfl; omega))
    simp (disch := omega) only [t0, t6, t7, ei, hlt, r0', ap_, fl, go_sem, Nat.reduceEqDiff, Nat.reduceLeDiff, reduceCtorEq, ↓reduceIte]
    refine ⟨by omega, by omega, ?_⟩
    try simp (disch := omega) only [t0, t6, t7, ei, ei2, hlt, hlt0, r0', ap_, fl, go_sem, Nat.reduceEqDiff, Nat.reduceAdd, Nat.reduceLeDiff, reduceCtorEq, Int.reduceLT, Int.reduceLE, Int.reduceNeg, Int.reduceSub, Int.reduceAdd, Int.reduceToNat, ↓reduceIte]
    exact ⟨l.length + 1 - (i + 1), by omega, hJ _ _ _ ⟨i + 1, acc ++ [l[i]], rest ++ [⟨5, 1, bo_ [l[i]]⟩], by simp [upd, t0], by simp [upd], by simp [upd]; try omega, by simp [bo_], rfl, by omega, by simp; omega, hS⟩⟩
  ·have hlt' : ¬ (i : Int) + 1 < l.length := by omega
   simp (disch := omega) only [t0, t7, hlt', ap_, go_sem, Nat.reduceEqDiff, reduceCtorEq, ↓reduceIte]
   rw [hS, nK_ l acc i (by omega)]
   exact ⟨2, rfl⟩
theorem Cl_ (l : List UInt8) (i : Nat) (h : i < l.length) : esc (l.drop i) = if l[i] = 0 then 0 :: 255 :: esc (l.drop (i + 1)) else l[i] :: esc (l.drop (i + 1)) := by
 rw [List.drop_eq_getElem_cons h, esc]
theorem wb_ (n k : Nat) (h : k < 8) : IntKind.u8.wrap ((n : Int).fdiv (2 ^ min (8 * (7 - (k : Int))).toNat 64)) = ((de_ n (7 - k)).toNat : Int) := by
 have e : (8 * (7 - (k : Int))).toNat = (8 * ((7 - k : Nat) : Int)).toNat := by omega
 rw [e, pp_ _ _ (by omega), mt_]
theorem mV_ (l : List UInt8) (b : UInt8) : bo_ l ++ [[AV.val (.int .u8 b.toNat)]] = bo_ (l ++ [b]) := by simp [bo_]
def yT_ : LC :=
 .seq (.ops [.s 2 (.mov (.const (.string ⟨#[]⟩)))]) (.seq (.ops [.s 7 (.buildSlice 5 1 (.int .u8 0) 0 []), .m 3 7]) (.seq (.seq (.ops [.m 8 0, .c1 9 221 8]) (.cond (.tmp 9) (.seq (.ops [.m 10 0, .c1 11 222 10, .bk 12 .add
 false 11 1000000000000000000, .m 4 12]) (.seq (.ops [.m 13 3, .s 14 (.buildSlice 5 1 (.int .u8 0) 1 [(0, .const (.int .u8 1))]), .ap 15 5 1 1 13 14, .m 3 15]) (.seq (.seq (.ops [.ki 5 7]) (.block 0 (.loop (.seq (.seq
 (.ops [.m 16 5, .bk 17 .geq false 16 0]) (.cond (.tmp 17) .skip (.exit 0))) (.seq (.block 1 (.ops [.m 20 3, .m 21 4, .m 22 5, .s 23 (.bin .mul false (.const (.int .i64 8)) (.tmp 22)), .bb 24 .shr false 21 23, .s 25
 (.convInt .u8 (.tmp 24)), .s 26 (.buildSlice 5 1 (.int .u8 0) 1 [(0, .tmp 25)]), .ap 27 5 1 1 20 26, .m 3 27])) (.ops [.m 18 5, .bk 19 .sub false 18 1, .m 5 19])))))) (.seq (.ops [.m 28 3, .s 29 (.toStr (.tmp 28)), .m 2
 29]) .ret)))) .skip)) (.seq (.ops [.m 30 3, .s 31 (.buildSlice 5 1 (.int .u8 0) 1 [(0, .const (.int .u8 2))]), .ap 32 5 1 1 30 31, .m 3 32]) (.seq (.seq (.ops [.ki 6 0]) (.block 2 (.loop (.seq (.seq (.ops [.m 33 6, .m 34
 0, .s 35 (.lenStr (.tmp 34)), .bb 36 .lss false 33 35]) (.cond (.tmp 36) .skip (.exit 2))) (.seq (.block 3 (.seq (.ops [.m 39 3, .m 40 0, .m 41 6, .s 42 (.indexStr (.tmp 40) (.tmp 41)), .s 43 (.buildSlice 5 1 (.int .u8
 0) 1 [(0, .tmp 42)]), .ap 44 5 1 1 39 43, .m 3 44]) (.seq (.ops [.m 45 0, .m 46 6, .s 47 (.indexStr (.tmp 45) (.tmp 46)), .s 48 (.bin .eql false (.tmp 47) (.const (.int .u8 0)))]) (.cond (.tmp 48) (.ops [.m 49 3, .s 50
 (.buildSlice 5 1 (.int .u8 0) 1 [(0, .const (.int .u8 255))]), .ap 51 5 1 1 49 50, .m 3 51]) .skip)))) (.ops [.m 37 6, .bk 38 .add false 37 1, .m 6 38])))))) (.seq (.ops [.m 52 3, .s 53 (.buildSlice 5 1 (.int .u8 0) 2
 [(0, .const (.int .u8 0)), (1, .const (.int .u8 0))]), .ap 54 5 1 1 52 53, .s 55 (.toStr (.tmp 54)), .m 2 55]) .ret)))))
def vJ_ : LF := ⟨1, 56, yT_, [.tmp 2]⟩
theorem AQ_ : at_ Tryz.prog Tryz.f197 vJ_ := ah_
theorem nr_ (l : List UInt8) (hl : l.length ≤ 1048576) (h : List Row) : aa_ Tryz.prog 197 [.val (.string (txt l))] h (.val (.string (txt (co_ l)))) := by
 refine ak_ mixed Tryz.func197 AQ_ rfl rfl ?_ h
 simp (disch := omega) only [vJ_, yT_, go_sem, reduceCtorEq, ↓reduceIte]
 refine aa_.call (hx_ l (by omega) _) ?_
 by_cases q : bR_ l = true
 ·simp (disch := omega) only [q, go_sem, reduceCtorEq, ↓reduceIte]
  refine aa_.call (g2_ l (by omega) _) ?_
  have hn := eB_ l
  have hq := ii_ l
  have hq2 := h9_ l
  have hkey : co_ l = 1 :: be8 (c9_ l) := by unfold co_; rw [if_pos q]
  simp (disch := omega) only [ap_, ← hq, go_sem, Nat.reduceEqDiff, Nat.reduceLeDiff, ↓reduceIte]
  refine ⟨by omega, ?_⟩
  try simp (disch := omega) only [ap_, ← hq, go_sem, Nat.reduceEqDiff, Nat.reduceAdd, Nat.reduceLeDiff, reduceCtorEq, Int.reduceLT, Int.reduceLE, Int.reduceNeg, Int.reduceSub, Int.reduceAdd, Int.reduceToNat, ↓reduceIte]
  refine aM_ (fun n t h => ∃ (k : Nat) (rest : List Row), t 3 = .own 0 (1 + k) ∧ t 4 = .val (.int .i64 (c9_ l)) ∧ t 5 = .val (.int .i64 (7 - k)) ∧ h = ⟨5, 1, bo_ (1 :: (be8 (c9_ l)).take k)⟩ :: rest ∧ n = 8 - k ∧ k ≤ 8) 8 ?_ ?_
  ·exact ⟨0, _, rfl, rfl, rfl, rfl, rfl, by omega⟩
  rintro J hJ n t h ⟨k, rest, t3, t4, t5, rfl, rfl, hk⟩
  have fl : (bo_ (1 :: (be8 (c9_ l)).take k)).length = 1 + k := by
   rw [fJ_, lc_, List.length_take, dO_]; omega
  by_cases hlt : k < 8
  ·have hg : (0 : Int) ≤ 7 - k := by omega
   simp (disch := omega) only [t3, t4, t5, hg, fl, nn_, mY_, ap_, wb_, go_sem, Nat.reduceEqDiff, Nat.reduceLeDiff, ↓reduceIte]
   refine ⟨by omega, by omega, ?_⟩
   try simp (disch := omega) only [t3, t4, t5, hg, fl, nn_, mY_, ap_, wb_, go_sem, Nat.reduceEqDiff, Nat.reduceAdd, Nat.reduceLeDiff, reduceCtorEq, Int.reduceLT, Int.reduceLE, Int.reduceNeg, Int.reduceSub, Int.reduceAdd, Int.reduceToNat, ↓reduceIte]
   refine ⟨8 - (k + 1), by omega, hJ _ _ _ ⟨k + 1, rest ++ [⟨5, 1, bo_ [de_ (c9_ l) (7 - k)]⟩], by simp [upd]; try omega, by simp [upd, t4], by simp [upd]; try omega, ?_, rfl, by omega⟩⟩
   rw [mV_, List.cons_append, ← pT_ _ _ hlt]
   rfl
  ·have hg : ¬ (0 : Int) ≤ 7 - k := by omega
   simp (disch := omega) only [t3, t5, hg, fl, hc_, Option.map_some, go_sem, Nat.reduceEqDiff, ↓reduceIte]
   rw [q0_ _ _ (by omega), ← hkey]
   exact ⟨1, rfl⟩
 ·have q' : bR_ l = false := by simpa using q
  have hkey : co_ l = 2 :: (esc l ++ [0, 0]) := by unfold co_; rw [if_neg q]
  simp (disch := omega) only [q', go_sem, Nat.reduceEqDiff, Nat.reduceLeDiff, ↓reduceIte]
  refine ⟨by omega, ?_⟩
  try simp (disch := omega) only [go_sem, Nat.reduceEqDiff, Nat.reduceAdd, Nat.reduceLeDiff, reduceCtorEq, Int.reduceLT, Int.reduceLE, Int.reduceNeg, Int.reduceSub, Int.reduceAdd, Int.reduceToNat, ↓reduceIte]
  refine aM_ (fun n t h => ∃ (i : Nat) (out : List UInt8) (rest : List Row), t 0 = .val (.string (txt l)) ∧ t 3 = .own 0 out.length ∧ t 6 = .val (.int .i64 i) ∧ h = ⟨5, 1, bo_ out⟩ :: rest ∧ n = l.length - i ∧ i ≤ l.length ∧ out.length ≤ 1 + 2 * i ∧ 2 :: esc l = out ++ esc (l.drop i)) l.length ?_ ?_
  ·exact ⟨0, [2], _, rfl, rfl, rfl, rfl, rfl, by omega, by simp, rfl⟩
  rintro J hJ n t h ⟨i, out, rest, t0, t3, t6, rfl, rfl, hi, hol, hS⟩
  have fl := fJ_ out
  by_cases hlt : i < l.length
  ·have hltI : (i : Int) < l.length := by omega
   rw [Cl_ l i hlt] at hS
   by_cases r0 : l[i] = 0
   ·rw [if_pos r0] at hS
    have r0' : ((l[i].toNat : Int) = 0) = True := by simp [r0]
    simp (disch := omega) only [t0, t3, t6, hltI, r0', fl, ap_, go_sem, Nat.reduceEqDiff, Nat.reduceLeDiff, reduceCtorEq, ↓reduceIte]
    refine ⟨by omega, by omega, ?_⟩
    refine ⟨by omega, by omega, ?_⟩
    refine ⟨l.length - (i + 1), by omega, hJ _ _ _ ⟨i + 1, out ++ [0, 255], rest ++ [⟨5, 1, bo_ [l[i]]⟩, ⟨5, 1, bo_ [255]⟩], by simp [upd, t0], by simp [upd], by simp [upd]; try omega, by simp [bo_, r0], rfl, by omega, by simp; omega, by rw [hS]; simp⟩⟩
   ·rw [if_neg r0] at hS
    have r0' : ((l[i].toNat : Int) = 0) = False := by rw [eq_iff_iff, iff_false]; intro e; exact r0 (UInt8.toNat_inj.1 (by have h2 : (0 : UInt8).toNat = 0 := rfl; omega))
    simp (disch := omega) only [t0, t3, t6, hltI, r0', fl, ap_, go_sem, Nat.reduceEqDiff, Nat.reduceLeDiff, reduceCtorEq, ↓reduceIte]
    refine ⟨by omega, by omega, ?_⟩
    try simp (disch := omega) only [t0, t3, t6, hltI, hlt, r0', fl, ap_, go_sem, Nat.reduceEqDiff, Nat.reduceAdd, Nat.reduceLeDiff, reduceCtorEq, Int.reduceLT, Int.reduceLE, Int.reduceNeg, Int.reduceSub, Int.reduceAdd, Int.reduceToNat, ↓reduceIte]
    exact ⟨l.length - (i + 1), by omega, hJ _ _ _ ⟨i + 1, out ++ [l[i]], rest ++ [⟨5, 1, bo_ [l[i]]⟩], by simp [upd, t0], by simp [upd], by simp [upd]; try omega, by simp [bo_], rfl, by omega, by simp; omega, by rw [hS]; simp⟩⟩
  ·have hltI : ¬ (i : Int) < l.length := by omega
   rw [List.drop_eq_nil_of_le (by omega), esc, List.append_nil] at hS
   simp (disch := omega) only [t0, t3, t6, hltI, fl, go_sem, Nat.reduceEqDiff, Nat.reduceAdd, Nat.reduceLeDiff, reduceCtorEq, ↓reduceIte]
   refine ⟨by omega, by omega, ?_⟩
   have e2 : bo_ out ++ [[AV.val (.int .u8 0)], [AV.val (.int .u8 0)]] = bo_ (out ++ [0, 0]) := by simp [bo_]
   simp (disch := omega) only [e2, hc_, Option.map_some, go_sem]
   rw [hkey, ← hS]
   exact ⟨1, rfl⟩
def AV_ : LC :=
 .seq (.ops [.s 2 (.mov (.const (.string ⟨#[]⟩)))]) (.seq (.ops [.s 3 (.mov (.const (.string ⟨#[]⟩)))]) (.seq (.seq (.ops [.ki 4 0]) (.block 0 (.loop (.seq (.seq (.ops [.m 5 4, .m 6 0, .ll 7 6, .bb 8 .lss false 5 7])
 (.cond (.tmp 8) .skip (.exit 0))) (.seq (.block 1 (.ops [.m 11 3, .m 12 0, .m 13 4, .ia 14 1 12 13, .ln 15 14, .c1 16 197 15, .bb 17 .add false 11 16, .m 3 17])) (.ops [.m 9 4, .bk 10 .add false 9 1, .m 4 10])))))) (.seq
 (.ops [.m 18 3, .m 2 18]) .ret)))
def vN_ : LF := ⟨1, 19, AV_, [.tmp 2]⟩
theorem yJ_ : at_ Tryz.prog Tryz.f163 vN_ := ah_
theorem gx_ (xs : List ByteArray) (hx : bc_ xs = true) (h : List Row) : aa_ Tryz.prog 163 [.list 0 1 (xs.map aj_)] h (.val (.string (txt (cK_ (bss xs))))) := by
 refine ak_ mixed Tryz.func163 yJ_ rfl rfl ?_ h
 obtain ⟨h4, hm⟩ := eD_ hx
 simp (disch := omega) only [vN_, AV_, go_sem]
 refine aM_ (fun n t h => ∃ k : Nat, t 0 = .list 0 1 (xs.map aj_) ∧ t 3 = .val (.string (txt (cK_ (bss (xs.take k))))) ∧ t 4 = .val (.int .i64 k) ∧ h = [] ∧ n = xs.length - k ∧ k ≤ xs.length) xs.length ⟨0, rfl, rfl, rfl, rfl, rfl, Nat.zero_le _⟩ ?_
 rintro J hJ n t h ⟨k, t0, t3, t4, rfl, rfl, hk⟩
 by_cases hlt : k < xs.length
 ·have hltI : (k : Int) < xs.length := by omega
  have hl1 := jz_ (xs.take k) (fun x hx' => (hm x (List.mem_of_mem_take hx')).2)
  have hl2 : (xs.take k).length ≤ 4 := by rw [List.length_take]; omega
  have hl3 := jG_ (bs xs[k])
  have hl4 := hm _ (List.getElem_mem hlt)
  have hl5 : (bs xs[k]).length = xs[k].size := e9_ _
  have hc := fun h => nr_ (bs xs[k]) (by omega) h
  rw [ek_] at hc
  have hadd : (cK_ (bss (xs.take k))).length + (co_ (bs xs[k])).length ≤ 9223372036854775807 := by omega
  simp (disch := omega) only [t0, t3, t4, hltI, go_sem, Nat.reduceEqDiff, reduceCtorEq, ↓reduceIte]
  refine aa_.call (hc _) ?_
  simp (disch := omega) only [t4, ja_ _ _ _ hadd, ap_, go_sem, Nat.reduceEqDiff, ↓reduceIte]
  refine ⟨xs.length - (k + 1), by omega, hJ _ _ _ ⟨k + 1, by simp [upd, t0], ?_, by simp [upd], rfl, rfl, by omega⟩⟩
  rw [List.take_succ_eq_append_getElem hlt, bss, bss, List.map_append, oT_]
  simp [upd, cK_]
 ·have hltI : ¬ (k : Int) < xs.length := by omega
  simp (disch := omega) only [t0, t3, t4, hltI, go_sem, Nat.reduceEqDiff, reduceCtorEq, ↓reduceIte]
  rw [List.take_of_length_le (by omega)]
  exact ⟨1, rfl⟩
theorem ty_ {s : ByteArray} (h : cO_ df_ 5 (bs s) [] = none) : dK_ s = ([], false) := by
 rw [dK_, ko_, fO_, h]
theorem nh_ {s : ByteArray} {out : List (List UInt8)} {left : List UInt8} (h : cO_ df_ 5 (bs s) [] = some (out, left)) (q : ¬ (left = [] ∧ eA_ out = true ∧ cK_ out = bs s)) : dK_ s = ([], false) := by
 rw [dK_, ko_, fO_, h]; simp only; rw [if_neg q]
theorem uN_ {s : ByteArray} {out : List (List UInt8)} (h : cO_ df_ 5 (bs s) [] = some (out, [])) (h2 : eA_ out = true) (h3 : cK_ out = bs s) : dK_ s = (out.map txt, true) := by
 rw [dK_, ko_]; simp [fO_, h, h2, h3]
def yi_ : LC :=
 .seq (.ops [.s 2 (.mov (.const (.slice none 0 0))), .s 3 (.mov (.const (.bool false)))]) (.seq (.ops [.s 9 (.buildSlice 9 1 (.string ⟨#[]⟩) 0 []), .m 4 9]) (.seq (.ops [.m 10 0, .m 5 10]) (.seq (.block 0 (.loop (.seq
 (.seq (.ops [.m 11 5, .s 12 (.bin .neq false (.tmp 11) (.const (.string ⟨#[]⟩))), .m 13 12, .g 14 13 true (.mov (.tmp 4)), .g 15 13 true (.lenSl (.tmp 14)), .g 16 13 true (.bin .leq false (.tmp 15) (.const (.int .i64
 4))), .pf 17 13 16]) (.cond (.tmp 17) .skip (.exit 0))) (.block 1 (.seq (.ops [.m 19 5, .c1 20 161 19, .m 18 20, .ex 21 18 0, .ex 22 18 1, .ex 23 18 2, .m 6 21, .m 7 22, .m 8 23]) (.seq (.seq (.ops [.m 24 8, .nt 25 24])
 (.cond (.tmp 25) (.seq (.ops [.s 26 (.buildSlice 9 1 (.string ⟨#[]⟩) 0 []), .m 2 26, .s 3 (.mov (.const (.bool false)))]) .ret) .skip)) (.seq (.ops [.m 27 4, .m 28 6, .s 29 (.buildSlice 9 1 (.string ⟨#[]⟩) 1 [(0, .tmp
 28)]), .ap 30 9 1 16 27 29, .m 4 30]) (.ops [.m 31 7, .m 5 31])))))))) (.seq (.seq (.ops [.m 32 5, .s 33 (.bin .neq false (.tmp 32) (.const (.string ⟨#[]⟩))), .m 34 33, .g 35 34 false (.mov (.tmp 4)), .g 36 34 false
 (.call 162 [.tmp 35]), .g 37 34 false (.un .not (.tmp 36)), .pt 38 34 37, .m 39 38, .g 40 39 false (.mov (.tmp 4)), .g 41 39 false (.call 163 [.tmp 40]), .g 42 39 false (.mov (.tmp 0)), .g 43 39 false (.bin .neq false
 (.tmp 41) (.tmp 42)), .pt 44 39 43]) (.cond (.tmp 44) (.seq (.ops [.s 45 (.buildSlice 9 1 (.string ⟨#[]⟩) 0 []), .m 2 45, .s 3 (.mov (.const (.bool false)))]) .ret) .skip)) (.seq (.ops [.m 46 4, .m 2 46, .s 3 (.mov
 (.const (.bool true)))]) .ret)))))
def wG_ : LF := ⟨1, 47, yi_, [.tmp 2, .tmp 3]⟩
theorem Ci_ : at_ Tryz.prog Tryz.f124 wG_ := ah_
theorem jX_ (s : ByteArray) (hs : s.size ≤ 1048576) : aL_ Tryz.prog 124 [.val (.string s)] (oC_ (dK_ s)) (fun a => ∃ b q, a = .tup [b, .val (.bool q)]) := by
 refine dE_ mixed Tryz.func124 Ci_ rfl (fun h0 => ?_)
 have hbl := e9_ s
 simp (disch := omega) only [wG_, yi_, go_sem, reduceCtorEq, ↓reduceIte]
 refine aM_ (fun n t h => ∃ (out : List (List UInt8)) (left : List UInt8) (rest : List Row), t 0 = .val (.string s) ∧ t 4 = .own h0.length out.length ∧ t 5 = .val (.string (txt left)) ∧ h = h0 ++ ⟨9, 1, d4_ out⟩ :: rest ∧ n = 5 - out.length ∧ out.length ≤ 5 ∧ left.length ≤ s.size ∧ cO_ df_ 5 (bs s) [] = cO_ df_ (5 - out.length) left out) 5 ?_ ?_
 ·exact ⟨[], bs s, [], rfl, rfl, by rw [ek_]; rfl, rfl, rfl, by simp, Nat.le_of_eq (e9_ s), rfl⟩
 rintro J hJ n t h ⟨out, left, rest, t0, t4, t5, rfl, rfl, ho, hle, hS⟩
 have fl : (d4_ out).length = out.length := by simp
 have hA := oR_ h0 out rest
 by_cases q0 : left = []
 ·subst q0
  have hR : cO_ df_ 5 (bs s) [] = some (out, []) := by
   rw [hS]; cases 5 - out.length with
   | zero => rw [cO_]
   | succ f => rw [cO_, if_pos rfl]
  have q0' : (txt ([] : List UInt8) = txt []) = True := by simp
  simp (disch := omega) only [t4, t5, ag_, go_sem, Nat.reduceEqDiff, ↓reduceIte]
  refine aa_.call (AW.frozen (dX_ (out.map txt) (by simp; omega)) hA) ?_
  by_cases s1 : eA_ out = true
  case neg =>
   have s1' : bc_ (out.map txt) = false := by rw [d7_]; simpa using s1
   simp (disch := omega) only [t4, s1', ag_, go_sem, Nat.reduceEqDiff, ↓reduceIte]
   rw [nh_ hR (fun q => s1 q.2.1)]
   exact ⟨_, rfl, cV_ (fg_ (out := []) (E := 9) (by first | (rw [b9_]; rfl) | (rw [b9_]; simp)) (by omega)) (by omega) _, _, _, rfl⟩
  have s1' : bc_ (out.map txt) = true := by rw [d7_]; exact s1
  simp (disch := omega) only [t4, s1', go_sem, Nat.reduceEqDiff, ↓reduceIte]
  refine aa_.call (AW.frozen (gx_ (out.map txt) s1') hA) ?_
  rw [o4_]
  by_cases s2 : cK_ out = bs s
  case neg =>
   have s2' : (txt (cK_ out) = s) = False := by rw [eq_iff_iff, iff_false]; intro e; exact s2 (by rw [← e]; exact (bZ_ _).symm)
   simp (disch := omega) only [t0, t4, s2', ag_, go_sem, Nat.reduceEqDiff, reduceCtorEq, ↓reduceIte]
   rw [nh_ hR (fun q => s2 q.2.2)]
   exact ⟨_, rfl, cV_ (fg_ (out := []) (E := 9) (by first | (rw [b9_]; rfl) | (rw [b9_]; simp)) (by omega)) (by omega) _, _, _, rfl⟩
  have s2' : (txt (cK_ out) = s) = True := by rw [s2, ek_]; simp
  simp (disch := omega) only [t0, t4, s2', ag_, go_sem, Nat.reduceEqDiff, reduceCtorEq, ↓reduceIte]
  rw [uN_ hR s1 s2]
  have hz := cV_ (fg_ (base := h0.length) (l := h0.length) (E := 9) (out := out.map txt) (H := h0 ++ ⟨9, 1, d4_ out⟩ :: rest) (by rw [cw_]; rfl) (Nat.le_refl _)) (by omega) (.bool true)
  rw [List.length_map] at hz
  exact ⟨_, rfl, hz, _, _, rfl⟩
 ·have hpos : 0 < left.length := by cases left with
   | nil => exact absurd rfl q0
   | cons b l => simp
  have q0' : (txt left = txt []) = False := by rw [k5_]; simp [q0]
  by_cases q4 : out.length ≤ 4
  ·have q4' : (out.length : Int) ≤ 4 := by omega
   have e5 : 5 - out.length = (4 - out.length) + 1 := by omega
   rw [e5, n6_ df_ (4 - out.length) left out q0] at hS
   simp (disch := omega) only [t4, t5, q0', q4', fl, ag_, go_sem, Nat.reduceEqDiff, ↓reduceIte]
   have hc := fun h => mF_ left hpos (by omega) h
   cases hn : df_ left with
   | none =>
    rw [hn, iz_] at hc
    rw [hn] at hS
    refine aa_.call (hc _) ?_
    simp (disch := omega) only [t4, fl, ag_, go_sem, Nat.reduceEqDiff, Nat.reduceLeDiff, ↓reduceIte]
    rw [ty_ (by rw [hS])]
    exact ⟨_, rfl, cV_ (fg_ (out := []) (E := 9) (by first | (rw [b9_]; rfl) | (rw [b9_]; simp)) (by omega)) (by omega) _, _, _, rfl⟩
   | some p =>
    obtain ⟨x, r⟩ := p
    rw [hn, in_] at hc
    have hlen := sZ_ left x r hn
    rw [hn] at hS
    refine aa_.call (hc _) ?_
    simp (disch := omega) only [t4, fl, ag_, go_sem, Nat.reduceEqDiff, Nat.reduceLeDiff, ↓reduceIte]
    refine ⟨by omega, by omega, ?_⟩
    try simp (disch := omega) only [t0, t4, t5, q0', q4', fl, ag_, go_sem, Nat.reduceEqDiff, Nat.reduceAdd, Nat.reduceLeDiff, reduceCtorEq, Int.reduceLT, Int.reduceLE, Int.reduceNeg, Int.reduceSub, Int.reduceAdd, Int.reduceToNat, ↓reduceIte]
    exact ⟨5 - (out.length + 1), by omega, hJ _ _ _ ⟨out ++ [x], r, rest ++ [⟨9, 1, [[.val (.string (txt x))]]⟩], by simp [upd, t0], by simp [upd], by simp [upd], by simp [aj_], by simp, by simp; omega, by omega, by simpa [Nat.sub_sub] using hS⟩⟩
  ·have q4' : ¬ (out.length : Int) ≤ 4 := by omega
   have e0 : 5 - out.length = 0 := by omega
   have hR : cO_ df_ 5 (bs s) [] = some (out, left) := by rw [hS, e0, cO_]
   simp (disch := omega) only [t4, t5, q0', q4', fl, ag_, go_sem, Nat.reduceEqDiff, ↓reduceIte]
   rw [nh_ hR (fun q => q0 q.1)]
   exact ⟨_, rfl, cV_ (fg_ (out := []) (E := 9) (by first | (rw [b9_]; rfl) | (rw [b9_]; simp)) (by omega)) (by omega) _, _, _, rfl⟩
theorem hR_ (s : ByteArray) (hs : s.size ≤ 1048576) (h : List Row) : aa_ Tryz.prog 124 [.val (.string s)] h (oC_ (dK_ s)) := (jX_ s hs).pure rfl h
def et_ (n : Int) : Bool := decide (n = 0) || decide (n = 1) || decide (n = 10) || decide (n = 11)
def zv_ : LC :=
 .seq (.ops [.s 2 (.mov (.const (.bool false)))]) (.seq (.ops [.m 3 0, .bk 4 .eql false 3 0, .m 5 4, .g 6 5 false (.mov (.tmp 0)), .g 7 5 false (.bin .eql false (.tmp 6) (.const (.int .i64 1))), .pt 8 5 7, .m 9 8, .g 10 9
 false (.mov (.tmp 0)), .g 11 9 false (.bin .eql false (.tmp 10) (.const (.int .i64 10))), .pt 12 9 11, .m 13 12, .g 14 13 false (.mov (.tmp 0)), .g 15 13 false (.bin .eql false (.tmp 14) (.const (.int .i64 11))), .pt 16
 13 15, .m 2 16]) .ret)
def w2_ : LF := ⟨1, 17, zv_, [.tmp 2]⟩
theorem zH_ : at_ Tryz.prog Tryz.f177 w2_ := ah_
theorem eL_ (n : Int)  (h : List Row) : aa_ Tryz.prog 177 [.val (.int .i64 n)] h (.val (.bool (et_ n))) := by
 refine ak_ mixed Tryz.func177 zH_ rfl rfl ?_ h
 simp (disch := omega) only [w2_, zv_, go_sem, reduceCtorEq, ↓reduceIte]
 repeat' (first
  | exact af_ _ _
  | (refine ae_ ?_; simp [et_, *]; done)
  | simp (disch := omega) only [go_sem, Nat.reduceEqDiff, reduceCtorEq, ↓reduceIte]
  | ((first | (apply aQ_; assumption) | (apply aR_; assumption) | (apply a8_; assumption) | (apply a7_; assumption)); intro hb; try simp only [hb])
  | ((first | (apply aF_; assumption) | (apply aE_; assumption) | (apply aN_; assumption) | (apply aO_; assumption)); intro hb; try simp only [hb])
  | ((first | apply ay_ | apply aB_ | apply am_ | apply ao_) <;> intro hb <;> (try simp only [hb]) <;> (first | have hp := aZ_ hb | have hp := aX_ hb | have hp := a0_ hb | have hp := aY_ hb | skip)))
def AB_ : LC :=
 .seq (.ops [.s 2 (.mov (.const (.bool false)))]) (.seq (.ops [.m 3 0, .bk 4 .eql false 3 0, .m 5 4, .g 6 5 false (.mov (.tmp 0)), .g 7 5 false (.bin .eql false (.tmp 6) (.const (.int .i64 1))), .pt 8 5 7, .m 9 8, .g 10 9
 false (.mov (.tmp 0)), .g 11 9 false (.bin .eql false (.tmp 10) (.const (.int .i64 10))), .pt 12 9 11, .m 13 12, .g 14 13 false (.mov (.tmp 0)), .g 15 13 false (.bin .eql false (.tmp 14) (.const (.int .i64 11))), .pt 16
 13 15, .m 2 16]) .ret)
def vT_ : LF := ⟨1, 17, AB_, [.tmp 2]⟩
theorem Ch_ : at_ Tryz.prog Tryz.f122 vT_ := ah_
theorem eN_ (n : Int)  (h : List Row) : aa_ Tryz.prog 122 [.val (.int .i64 n)] h (.val (.bool (et_ n))) := by
 refine ak_ mixed Tryz.func122 Ch_ rfl rfl ?_ h
 simp (disch := omega) only [vT_, AB_, go_sem, reduceCtorEq, ↓reduceIte]
 repeat' (first
  | exact af_ _ _
  | (refine ae_ ?_; simp [et_, *]; done)
  | simp (disch := omega) only [go_sem, Nat.reduceEqDiff, reduceCtorEq, ↓reduceIte]
  | ((first | (apply aQ_; assumption) | (apply aR_; assumption) | (apply a8_; assumption) | (apply a7_; assumption)); intro hb; try simp only [hb])
  | ((first | (apply aF_; assumption) | (apply aE_; assumption) | (apply aN_; assumption) | (apply aO_; assumption)); intro hb; try simp only [hb])
  | ((first | apply ay_ | apply aB_ | apply am_ | apply ao_) <;> intro hb <;> (try simp only [hb]) <;> (first | have hp := aZ_ hb | have hp := aX_ hb | have hp := a0_ hb | have hp := aY_ hb | skip)))
def fi_ (s : ByteArray) : Bool := decide (64 < (s.size : Int))
def zL_ : LC :=
 .seq (.ops [.s 2 (.mov (.const (.bool false)))]) (.seq (.ops [.m 3 0, .s 4 (.lenStr (.tmp 3)), .bk 5 .gtr false 4 64, .m 2 5]) .ret)
def wp_ : LF := ⟨1, 6, zL_, [.tmp 2]⟩
theorem yQ_ : at_ Tryz.prog Tryz.f206 wp_ := ah_
theorem ig_ (s : ByteArray)  (h : List Row) : aa_ Tryz.prog 206 [.val (.string s)] h (.val (.bool (fi_ s))) := by
 refine ak_ mixed Tryz.func206 yQ_ rfl rfl ?_ h
 simp (disch := omega) only [wp_, zL_, go_sem, reduceCtorEq, ↓reduceIte]
 repeat' (first
  | exact af_ _ _
  | (refine ae_ ?_; first | rfl | (simp only [fi_, *, Bool.and_true, Bool.true_and, Bool.and_false, Bool.false_and, Bool.or_true, Bool.true_or, Bool.or_false, Bool.false_or, Bool.not_true, Bool.not_false, decide_true, decide_false, Bool.and_self, Bool.or_self]; done) | (simp [fi_, *]; done))
  | simp (disch := omega) only [go_sem, Nat.reduceEqDiff, Nat.reduceAdd, Nat.reduceLeDiff, reduceCtorEq, Int.reduceLT, Int.reduceLE, Int.reduceNeg, Int.reduceSub, Int.reduceAdd, Int.reduceToNat, ↓reduceIte]
  | ((first | (apply aF_; assumption) | (apply aE_; assumption) | (apply aN_; assumption) | (apply aO_; assumption)); intro hb; try simp only [hb])
  | ((first | apply am_ | apply ao_) <;> intro hb <;> (try simp only [hb]) <;> (first | have hp := aZ_ hb | have hp := aX_ hb | have hp := a0_ hb | have hp := aY_ hb | skip)))
def zU_ : LC :=
 .seq (.ops [.s 2 (.mov (.const (.bool false)))]) (.seq (.ops [.m 3 0, .s 4 (.call 181 [.tmp 3, .func 206]), .m 2 4]) .ret)
def vY_ : LF := ⟨1, 5, zU_, [.tmp 2]⟩
theorem BJ_ : at_ Tryz.prog Tryz.f178 vY_ := ah_
theorem pk_ (xs : List ByteArray) (hx : xs.length ≤ 1048576) (h : List Row) : aa_ Tryz.prog 178 [.list 0 1 (xs.map aj_)] h (.val (.bool (xs.any fi_))) := by
 refine ak_ mixed Tryz.func178 BJ_ rfl rfl ?_ h
 simp (disch := omega) only [vY_, zU_, go_sem, reduceCtorEq, ↓reduceIte]
 repeat' (first
  | exact af_ _ _
  | simp (disch := omega) only [go_sem, ↓reduceIte]
  | (refine aa_.call (cl_ _ fi_ 206 hx (by kernel_rfl) (fun x _ h => ig_ x h) _) ?_)
  | (refine aa_.q (cl_ _ fi_ 206 hx (by kernel_rfl) (fun x _ h => ig_ x h) _) ?_)
  | ((first | (apply aF_; assumption) | (apply aE_; assumption) | (apply aN_; assumption) | (apply aO_; assumption)); intro hb; try simp only [hb])
  | ((first | apply am_ | apply ao_) <;> intro hb <;> (try simp only [hb]) <;> (first | have hp := aZ_ hb | have hp := aX_ hb | have hp := a0_ hb | have hp := aY_ hb | skip)))
theorem gv_ (s : ByteArray) {H : List Row} (hl : H[1]? = some ⟨9, 1, [[.val (.string s)]]⟩) : aa_ Tryz.prog 178 [.own 1 1] H (.val (.bool (fi_ s))) := by
 have : aa_ Tryz.prog 178 [.own 1 1] H (.val (.bool ([s].any fi_))) := AW.frozen (n := 2) (pk_ [s] (by simp)) (oH_ (kK_ (n := 0) hl rfl (by simp [AV.flat])))
 simpa using this
def be_ (e : ab_) : Bool :=
 if e.Kind = 1 then et_ e.N && !fi_ e.Value && (decide (e.N.tmod 10 = 1) || decide (e.Value = txt []))
 else if e.Kind = 4 then et_ e.N && decide (e.Value = txt [])
 else if e.Kind = 5 then (decide (e.N = 1) || decide (e.N = -1)) && (decide (e.Value = txt []) || bL_ e.Value)
 else if e.Kind = 6 then decide (e.N = 1) && (dK_ e.Value).2 || decide (e.N = 0) && decide (e.Value = txt [])
 else if e.Kind = 2 then decide (e.N = 0) && !fi_ e.Value
 else decide (e.Kind = 3) && decide (e.N = 0) && decide (e.Value = txt [])
def Cm_ : LC :=
 .seq (.ops [.s 1 (.box 79 (.tmp 0)), .s 2 (.mov (.const (.bool false)))]) (.seq (.seq (.ops [.fa 5 0 1, .ln 6 5]) (.block 0 (.seq (.ops [.bk 8 .eql false 6 1, .m 7 8]) (.cond (.tmp 7) (.seq (.ops [.fa 9 4 1, .ln 10 9,
 .c1 11 177 10, .m 12 11, .g 13 12 true (.fieldAddr 3 (.tmp 1)), .g 14 12 true (.load none (.tmp 13)), .g 15 12 true (.buildSlice 9 1 (.string ⟨#[]⟩) 1 [(0, .tmp 14)]), .g 16 12 true (.call 178 [.tmp 15]), .g 17 12 true
 (.un .not (.tmp 16)), .pf 18 12 17, .m 19 18, .g 20 19 true (.fieldAddr 4 (.tmp 1)), .g 21 19 true (.load none (.tmp 20)), .g 22 19 true (.bin .rem false (.tmp 21) (.const (.int .i64 10))), .g 23 19 true (.bin .eql false
 (.tmp 22) (.const (.int .i64 1))), .g 24 19 true (.mov (.tmp 23)), .g 25 24 false (.fieldAddr 3 (.tmp 1)), .g 26 24 false (.load none (.tmp 25)), .g 27 24 false (.bin .eql false (.tmp 26) (.const (.string ⟨#[]⟩))), .g 28
 19 true (.pick (.tmp 24) (.const (.bool true)) (.tmp 27)), .pf 29 19 28, .m 2 29]) .ret) (.seq (.ops [.bk 31 .eql false 6 4, .m 30 31]) (.cond (.tmp 30) (.seq (.ops [.fa 32 4 1, .ln 33 32, .c1 34 177 33, .m 35 34, .g 36
 35 true (.fieldAddr 3 (.tmp 1)), .g 37 35 true (.load none (.tmp 36)), .g 38 35 true (.bin .eql false (.tmp 37) (.const (.string ⟨#[]⟩))), .pf 39 35 38, .m 2 39]) .ret) (.seq (.ops [.bk 41 .eql false 6 5, .m 40 41])
 (.cond (.tmp 40) (.seq (.ops [.fa 42 4 1, .ln 43 42, .bk 44 .eql false 43 1, .m 45 44, .g 46 45 false (.fieldAddr 4 (.tmp 1)), .g 47 45 false (.load none (.tmp 46)), .g 48 45 false (.bin .eql false (.tmp 47) (.const
 (.int .i64 (-1)))), .pt 49 45 48, .m 50 49, .g 51 50 true (.fieldAddr 3 (.tmp 1)), .g 52 50 true (.load none (.tmp 51)), .g 53 50 true (.bin .eql false (.tmp 52) (.const (.string ⟨#[]⟩))), .g 54 50 true (.mov (.tmp 53)),
 .g 55 54 false (.fieldAddr 3 (.tmp 1)), .g 56 54 false (.load none (.tmp 55)), .g 57 54 false (.call 179 [.tmp 56]), .g 58 50 true (.pick (.tmp 54) (.const (.bool true)) (.tmp 57)), .pf 59 50 58, .m 2 59]) .ret) (.seq
 (.ops [.bk 61 .eql false 6 6, .m 60 61]) (.cond (.tmp 60) (.seq (.ops [.fa 63 3 1, .ln 64 63, .c1 65 180 64, .m 62 65, .ex 66 62 0, .ex 67 62 1, .m 3 66, .m 4 67]) (.seq (.ops [.fa 68 4 1, .ln 69 68, .bk 70 .eql false 69
 1, .m 71 70, .g 72 71 true (.mov (.tmp 4)), .pf 73 71 72, .m 74 73, .g 75 74 false (.fieldAddr 4 (.tmp 1)), .g 76 74 false (.load none (.tmp 75)), .g 77 74 false (.bin .eql false (.tmp 76) (.const (.int .i64 0))), .g 78
 74 false (.mov (.tmp 77)), .g 79 78 true (.fieldAddr 3 (.tmp 1)), .g 80 78 true (.load none (.tmp 79)), .g 81 78 true (.bin .eql false (.tmp 80) (.const (.string ⟨#[]⟩))), .g 82 74 false (.pick (.tmp 78) (.tmp 81)
 (.const (.bool false))), .pt 83 74 82, .m 2 83]) .ret)) (.seq (.ops [.bk 85 .eql false 6 2, .m 84 85]) (.cond (.tmp 84) (.seq (.ops [.fa 86 4 1, .ln 87 86, .bk 88 .eql false 87 0, .m 89 88, .g 90 89 true (.fieldAddr 3
 (.tmp 1)), .g 91 89 true (.load none (.tmp 90)), .g 92 89 true (.buildSlice 9 1 (.string ⟨#[]⟩) 1 [(0, .tmp 91)]), .g 93 89 true (.call 178 [.tmp 92]), .g 94 89 true (.un .not (.tmp 93)), .pf 95 89 94, .m 2 95]) .ret)
 .skip)))))))))))) (.seq (.ops [.fa 96 0 1, .ln 97 96, .bk 98 .eql false 97 3, .m 99 98, .g 100 99 true (.fieldAddr 4 (.tmp 1)), .g 101 99 true (.load none (.tmp 100)), .g 102 99 true (.bin .eql false (.tmp 101) (.const
 (.int .i64 0))), .pf 103 99 102, .m 104 103, .g 105 104 true (.fieldAddr 3 (.tmp 1)), .g 106 104 true (.load none (.tmp 105)), .g 107 104 true (.bin .eql false (.tmp 106) (.const (.string ⟨#[]⟩))), .pf 108 104 107, .m 2
 108]) .ret))
def wJ_ : LF := ⟨1, 109, Cm_, [.tmp 2]⟩
theorem y2_ : at_ Tryz.prog Tryz.f141 wJ_ := ah_
theorem fR_ (x : ab_) (hx : ab_.sz x ≤ 1048576) (h : List Row) : aa_ Tryz.prog 141 [.agg (ab_.cells x)] h (.val (.bool (be_ x))) := by
 refine ak_ mixed Tryz.func141 y2_ rfl rfl ?_ h
 have hv := ab_.sz_Value hx
 simp (disch := omega) only [wJ_, Cm_, ab_.cells, go_sem, Nat.reduceEqDiff, Nat.reduceAdd, Int.reduceNeg, ↓reduceIte]
 by_cases k1 : x.Kind = 1
 ·simp (disch := omega) only [k1, go_sem, Nat.reduceEqDiff, Int.reduceNeg, ↓reduceIte]
  repeat' (first
   | exact af_ _ _
   | (refine ae_ ?_; simp [be_, *]; done)
   | simp (disch := omega) only [go_sem, Nat.reduceEqDiff, ↓reduceIte]
   | (refine aa_.call (eL_ _ _) ?_)
   | (refine aa_.q (eL_ _ _) ?_)
   | (refine aa_.call (gv_ x.Value rfl) ?_)
   | (refine aa_.q (gv_ x.Value rfl) ?_)
   | ((first | (apply aQ_; assumption) | (apply aR_; assumption) | (apply a8_; assumption) | (apply a7_; assumption)); intro hb; try simp only [hb])
   | ((first | (apply aF_; assumption) | (apply aE_; assumption) | (apply aN_; assumption) | (apply aO_; assumption)); intro hb; try simp only [hb])
   | ((first | apply ay_ | apply aB_ | apply am_ | apply ao_) <;> intro hb <;> (try simp only [hb]) <;> (first | have hp := aZ_ hb | have hp := aX_ hb | have hp := a0_ hb | have hp := aY_ hb | skip)))
 by_cases k4 : x.Kind = 4
 ·simp (disch := omega) only [k4, Int.reduceEq, go_sem, Nat.reduceEqDiff, Int.reduceNeg, ↓reduceIte]
  repeat' (first
   | exact af_ _ _
   | (refine ae_ ?_; simp [be_, *]; done)
   | simp (disch := omega) only [go_sem, Nat.reduceEqDiff, ↓reduceIte]
   | (refine aa_.call (eL_ _ _) ?_)
   | (refine aa_.q (eL_ _ _) ?_)
   | (refine aa_.call (gv_ x.Value rfl) ?_)
   | (refine aa_.q (gv_ x.Value rfl) ?_)
   | ((first | (apply aQ_; assumption) | (apply aR_; assumption) | (apply a8_; assumption) | (apply a7_; assumption)); intro hb; try simp only [hb])
   | ((first | (apply aF_; assumption) | (apply aE_; assumption) | (apply aN_; assumption) | (apply aO_; assumption)); intro hb; try simp only [hb])
   | ((first | apply ay_ | apply aB_ | apply am_ | apply ao_) <;> intro hb <;> (try simp only [hb]) <;> (first | have hp := aZ_ hb | have hp := aX_ hb | have hp := a0_ hb | have hp := aY_ hb | skip)))
 by_cases k5 : x.Kind = 5
 ·simp (disch := omega) only [k5, Int.reduceEq, go_sem, Nat.reduceEqDiff, Int.reduceNeg, ↓reduceIte]
  repeat' (first
   | exact af_ _ _
   | (refine ae_ ?_; simp [be_, *]; done)
   | simp (disch := omega) only [go_sem, Nat.reduceEqDiff, Int.reduceNeg, ↓reduceIte]
   | (refine aa_.call (fD_ _ _) ?_)
   | (refine aa_.q (fD_ _ _) ?_)
   | ((first | (apply aQ_; assumption) | (apply aR_; assumption) | (apply a8_; assumption) | (apply a7_; assumption)); intro hb; try simp only [hb])
   | ((first | (apply aF_; assumption) | (apply aE_; assumption) | (apply aN_; assumption) | (apply aO_; assumption)); intro hb; try simp only [hb])
   | ((first | apply ay_ | apply aB_ | apply am_ | apply ao_) <;> intro hb <;> (try simp only [hb]) <;> (first | have hp := aZ_ hb | have hp := aX_ hb | have hp := a0_ hb | have hp := aY_ hb | skip)))
 by_cases k6 : x.Kind = 6
 ·simp (disch := omega) only [k6, Int.reduceEq, go_sem, Nat.reduceEqDiff, Int.reduceNeg, ↓reduceIte]
  repeat' (first
   | exact af_ _ _
   | (refine ae_ ?_; simp [be_, *]; done)
   | simp (disch := omega) only [go_sem, Nat.reduceEqDiff, ↓reduceIte]
   | (refine aa_.call (ij_ _ hv _) ?_)
   | (refine aa_.q (ij_ _ hv _) ?_)
   | ((first | (apply aQ_; assumption) | (apply aR_; assumption) | (apply a8_; assumption) | (apply a7_; assumption)); intro hb; try simp only [hb])
   | ((first | (apply aF_; assumption) | (apply aE_; assumption) | (apply aN_; assumption) | (apply aO_; assumption)); intro hb; try simp only [hb])
   | ((first | apply ay_ | apply aB_ | apply am_ | apply ao_) <;> intro hb <;> (try simp only [hb]) <;> (first | have hp := aZ_ hb | have hp := aX_ hb | have hp := a0_ hb | have hp := aY_ hb | skip)))
 by_cases k2 : x.Kind = 2
 ·simp (disch := omega) only [k2, Int.reduceEq, go_sem, Nat.reduceEqDiff, Int.reduceNeg, ↓reduceIte]
  repeat' (first
   | exact af_ _ _
   | (refine ae_ ?_; simp [be_, *]; done)
   | simp (disch := omega) only [go_sem, Nat.reduceEqDiff, ↓reduceIte]
   | (refine aa_.call (gv_ x.Value rfl) ?_)
   | (refine aa_.q (gv_ x.Value rfl) ?_)
   | ((first | (apply aQ_; assumption) | (apply aR_; assumption) | (apply a8_; assumption) | (apply a7_; assumption)); intro hb; try simp only [hb])
   | ((first | (apply aF_; assumption) | (apply aE_; assumption) | (apply aN_; assumption) | (apply aO_; assumption)); intro hb; try simp only [hb])
   | ((first | apply ay_ | apply aB_ | apply am_ | apply ao_) <;> intro hb <;> (try simp only [hb]) <;> (first | have hp := aZ_ hb | have hp := aX_ hb | have hp := a0_ hb | have hp := aY_ hb | skip)))
 simp (disch := omega) only [k1, k4, k5, k6, k2, go_sem, Nat.reduceEqDiff, Int.reduceNeg, ↓reduceIte]
 repeat' (first
  | exact af_ _ _
  | (refine ae_ ?_; simp [be_, *]; done)
  | simp (disch := omega) only [go_sem, Nat.reduceEqDiff, ↓reduceIte]
  | ((first | (apply aQ_; assumption) | (apply aR_; assumption) | (apply a8_; assumption) | (apply a7_; assumption)); intro hb; try simp only [hb])
  | ((first | (apply aF_; assumption) | (apply aE_; assumption) | (apply aN_; assumption) | (apply aO_; assumption)); intro hb; try simp only [hb])
  | ((first | apply ay_ | apply aB_ | apply am_ | apply ao_) <;> intro hb <;> (try simp only [hb]) <;> (first | have hp := aZ_ hb | have hp := aX_ hb | have hp := a0_ hb | have hp := aY_ hb | skip)))
theorem ed_ (s : ByteArray) (hs : s.size ≤ 1048576) (h : List Row) : aa_ Tryz.prog 221 [.val (.string s)] h (.val (.bool (bR_ s.data.toList))) := by
 have := hx_ s.data.toList (by rw [e9_]; omega) h
 rwa [ek_] at this
theorem fm_ (s : ByteArray) (hs : s.size ≤ 1048576) (h : List Row) : aa_ Tryz.prog 222 [.val (.string s)] h (.val (.int .i64 (bM_ s.data.toList))) := by
 have := g2_ s.data.toList (by rw [e9_]; omega) h
 rwa [ek_] at this
theorem m4_ (q : Bool) (a b : ByteArray) : bb_ .lss q (.val (.string a)) (.val (.string b)) = some (.val (.bool (Op.bytesLess a.data.toList b.data.toList))) := by
 rw [pR_, d6_, d6_]
theorem xS_ (q : Bool) (a b : ByteArray) : bb_ .gtr q (.val (.string a)) (.val (.string b)) = some (.val (.bool (Op.bytesLess b.data.toList a.data.toList))) := by
 have e : bb_ .gtr q (.val (.string a)) (.val (.string b)) = some (.val (.bool (!(Op.bytesLess a.toList b.toList || a.toList == b.toList)))) := rfl
 rw [e, d6_, d6_]
 have : (!(Op.bytesLess a.data.toList b.data.toList || a.data.toList == b.data.toList)) = Op.bytesLess b.data.toList a.data.toList := by
  by_cases h1 : Op.bytesLess a.data.toList b.data.toList = true
  ·rw [h1, mc_ _ _ h1]; rfl
  ·by_cases h2 : a.data.toList = b.data.toList
   ·rw [h2, eJ_]; simp
   ·have h3 : (a.data.toList == b.data.toList) = false := by simpa using h2
    have h1' : Op.bytesLess a.data.toList b.data.toList = false := by simpa using h1
    rw [h1', h3]
    by_cases h4 : Op.bytesLess b.data.toList a.data.toList = true
    ·rw [h4]; rfl
    ·exact absurd (hj_ _ _ h1' (by simpa using h4)) h2
 rw [this]
def yU_ : LC :=
 .seq (.ops [.s 2 (.mov (.const (.bool false)))]) (.seq (.ops [.m 3 0, .m 4 0, .bb 5 .neq false 3 4, .m 2 5]) .ret)
def wo_ : LF := ⟨1, 6, yU_, [.tmp 2]⟩
theorem Ap_ : at_ Tryz.prog Tryz.f172 wo_ := ah_
theorem gm_ (s : ByteArray)  (h : List Row) : aa_ Tryz.prog 172 [.val (.string s)] h (.val (.bool false)) := by
 refine ak_ mixed Tryz.func172 Ap_ rfl rfl ?_ h
 simp (disch := omega) only [wo_, yU_, go_sem, Nat.reduceEqDiff, reduceCtorEq, ↓reduceIte]
 repeat' (first
  | exact af_ _ _
  | simp (disch := omega) only [go_sem, Nat.reduceEqDiff, Nat.reduceAdd, Nat.reduceLeDiff, reduceCtorEq, Int.reduceLT, Int.reduceLE, Int.reduceNeg, Int.reduceSub, Int.reduceAdd, Int.reduceToNat, ↓reduceIte]
  | ((first | (apply aF_; assumption) | (apply aE_; assumption) | (apply aN_; assumption) | (apply aO_; assumption)); intro hb; try simp only [hb])
  | ((first | apply am_ | apply ao_) <;> intro hb <;> (try simp only [hb]) <;> (first | have hp := aZ_ hb | have hp := aX_ hb | have hp := a0_ hb | have hp := aY_ hb | skip)))
def AT_ : LC :=
 .seq (.ops [.s 2 (.mov (.const (.bool false)))]) (.seq (.ops [.m 3 0, .m 4 0, .bb 5 .neq false 3 4, .m 2 5]) .ret)
def w5_ : LF := ⟨1, 6, AT_, [.tmp 2]⟩
theorem Bc_ : at_ Tryz.prog Tryz.f225 w5_ := ah_
theorem gK_ (s : Int)  (h : List Row) : aa_ Tryz.prog 225 [.val (.int .i64 s)] h (.val (.bool false)) := by
 refine ak_ mixed Tryz.func225 Bc_ rfl rfl ?_ h
 simp (disch := omega) only [w5_, AT_, go_sem, Nat.reduceEqDiff, reduceCtorEq, ↓reduceIte]
 repeat' (first
  | exact af_ _ _
  | simp (disch := omega) only [go_sem, Nat.reduceEqDiff, Nat.reduceAdd, Nat.reduceLeDiff, reduceCtorEq, Int.reduceLT, Int.reduceLE, Int.reduceNeg, Int.reduceSub, Int.reduceAdd, Int.reduceToNat, ↓reduceIte]
  | ((first | (apply aF_; assumption) | (apply aE_; assumption) | (apply aN_; assumption) | (apply aO_; assumption)); intro hb; try simp only [hb])
  | ((first | apply am_ | apply ao_) <;> intro hb <;> (try simp only [hb]) <;> (first | have hp := aZ_ hb | have hp := aX_ hb | have hp := a0_ hb | have hp := aY_ hb | skip)))
def Bi_ : LC :=
 .seq (.ops [.ki 4 0]) (.seq (.ops [.m 7 0, .c1 8 225 7, .m 5 8]) (.seq (.ops [.m 9 1, .c1 10 225 9, .m 6 10]) (.seq (.seq (.ops [.m 11 5]) (.cond (.tmp 11) (.seq (.seq (.ops [.m 12 6]) (.cond (.tmp 12) (.seq (.ops [.ki 4
 0]) .ret) .skip)) (.seq (.ops [.s 4 (.mov (.const (.int .i64 (-1))))]) .ret)) .skip)) (.seq (.seq (.ops [.m 13 6]) (.cond (.tmp 13) (.seq (.ops [.ki 4 1]) .ret) .skip)) (.seq (.seq (.ops [.m 14 0, .m 15 1, .bb 16 .lss
 false 14 15]) (.cond (.tmp 16) (.seq (.ops [.s 4 (.mov (.const (.int .i64 (-1))))]) .ret) .skip)) (.seq (.seq (.ops [.m 17 0, .m 18 1, .bb 19 .gtr false 17 18]) (.cond (.tmp 19) (.seq (.ops [.ki 4 1]) .ret) .skip)) (.seq
 (.ops [.ki 4 0]) .ret)))))))
def vE_ : LF := ⟨2, 20, Bi_, [.tmp 4]⟩
theorem AX_ : at_ Tryz.prog Tryz.f204 vE_ := ah_
theorem f3_ (a b : Int)  (h : List Row) : aa_ Tryz.prog 204 [.val (.int .i64 a), .val (.int .i64 b)] h (.val (.int .i64 (j8_ a b))) := by
 refine ak_ mixed Tryz.func204 AX_ rfl rfl ?_ h
 simp (disch := omega) only [vE_, Bi_, go_sem, reduceCtorEq, Int.reduceNeg, ↓reduceIte]
 repeat' (first
  | exact af_ _ _
  | (refine aD_ ?_; simp only [decide_eq_true_eq, decide_eq_false_iff_not] at *; unfold j8_; (repeat' split) <;> omega)
  | simp (disch := omega) only [go_sem, Nat.reduceEqDiff, reduceCtorEq, Int.reduceNeg, ↓reduceIte]
  | (refine aa_.call (gK_ _ _) ?_)
  | (refine aa_.q (gK_ _ _) ?_)
  | ((first | (apply aF_; assumption) | (apply aE_; assumption) | (apply aN_; assumption) | (apply aO_; assumption)); intro hb; try simp only [hb])
  | ((first | apply am_ | apply ao_) <;> intro hb <;> (try simp only [hb]) <;> (first | have hp := aZ_ hb | have hp := aX_ hb | have hp := a0_ hb | have hp := aY_ hb | skip)))
def zy_ : LC :=
 .seq (.ops [.ki 4 0]) (.seq (.ops [.m 7 0, .c1 8 172 7, .m 5 8]) (.seq (.ops [.m 9 1, .c1 10 172 9, .m 6 10]) (.seq (.seq (.ops [.m 11 5]) (.cond (.tmp 11) (.seq (.seq (.ops [.m 12 6]) (.cond (.tmp 12) (.seq (.ops [.ki 4
 0]) .ret) .skip)) (.seq (.ops [.s 4 (.mov (.const (.int .i64 (-1))))]) .ret)) .skip)) (.seq (.seq (.ops [.m 13 6]) (.cond (.tmp 13) (.seq (.ops [.ki 4 1]) .ret) .skip)) (.seq (.seq (.ops [.m 14 0, .m 15 1, .bb 16 .lss
 false 14 15]) (.cond (.tmp 16) (.seq (.ops [.s 4 (.mov (.const (.int .i64 (-1))))]) .ret) .skip)) (.seq (.seq (.ops [.m 17 0, .m 18 1, .bb 19 .gtr false 17 18]) (.cond (.tmp 19) (.seq (.ops [.ki 4 1]) .ret) .skip)) (.seq
 (.ops [.ki 4 0]) .ret)))))))
def wD_ : LF := ⟨2, 20, zy_, [.tmp 4]⟩
theorem zA_ : at_ Tryz.prog Tryz.f137 wD_ := ah_
theorem ei_ (a b : ByteArray)  (h : List Row) : aa_ Tryz.prog 137 [.val (.string a), .val (.string b)] h (.val (.int .i64 (iA_ a.data.toList b.data.toList))) := by
 refine ak_ mixed Tryz.func137 zA_ rfl rfl ?_ h
 simp (disch := omega) only [wD_, zy_, go_sem, reduceCtorEq, Int.reduceNeg, ↓reduceIte]
 repeat' (first
  | exact af_ _ _
  | (refine aD_ ?_; simp only [iA_, *]; first | rfl | (simp; done))
  | simp (disch := omega) only [m4_, xS_, go_sem, Nat.reduceEqDiff, reduceCtorEq, Int.reduceNeg, ↓reduceIte]
  | (refine aa_.call (gm_ _ _) ?_)
  | (refine aa_.q (gm_ _ _) ?_)
  | ((first | (apply aQ_; assumption) | (apply aR_; assumption) | (apply a8_; assumption) | (apply a7_; assumption)); intro hb; try simp only [hb])
  | ((first | (apply aF_; assumption) | (apply aE_; assumption) | (apply aN_; assumption) | (apply aO_; assumption)); intro hb; try simp only [hb])
  | ((first | apply ay_ | apply aB_ | apply am_ | apply ao_) <;> intro hb <;> (try simp only [hb]) <;> (first | have hp := aZ_ hb | have hp := aX_ hb | have hp := a0_ hb | have hp := aY_ hb | skip)))
def zj_ : LC :=
 .seq (.ops [.ki 4 0]) (.seq (.ops [.m 7 0, .c1 8 203 7, .m 9 1, .c1 10 203 9, .m 5 8, .m 6 10]) (.seq (.block 0 (.seq (.ops [.m 12 5, .m 13 12, .g 14 13 true (.mov (.tmp 6)), .pf 15 13 14, .m 11 15]) (.cond (.tmp 11)
 (.seq (.ops [.m 16 0, .c1 17 205 16, .m 18 1, .c1 19 205 18, .c2 20 204 17 19, .m 4 20]) .ret) (.seq (.ops [.m 22 5, .m 21 22]) (.cond (.tmp 21) (.seq (.ops [.s 4 (.mov (.const (.int .i64 (-1))))]) .ret) (.seq (.ops [.m
 24 6, .m 23 24]) (.cond (.tmp 23) (.seq (.ops [.ki 4 1]) .ret) .skip))))))) (.seq (.ops [.m 25 0, .m 26 1, .c2 27 137 25 26, .m 4 27]) .ret)))
def we_ : LF := ⟨2, 28, zj_, [.tmp 4]⟩
theorem yj_ : at_ Tryz.prog Tryz.f174 we_ := ah_
theorem eM_ (a b : ByteArray) (ha : a.size ≤ 1048576) (hbb : b.size ≤ 1048576) (h : List Row) : aa_ Tryz.prog 174 [.val (.string a), .val (.string b)] h (.val (.int .i64 (db_ a.data.toList b.data.toList))) := by
 refine ak_ mixed Tryz.func174 yj_ rfl rfl ?_ h
 simp (disch := omega) only [we_, zj_, go_sem, reduceCtorEq, Int.reduceNeg, ↓reduceIte]
 repeat' (first
  | exact af_ _ _
  | (refine aD_ ?_; simp only [db_, *]; first | rfl | (simp; done))
  | simp (disch := omega) only [go_sem, Nat.reduceEqDiff, reduceCtorEq, Int.reduceNeg, ↓reduceIte]
  | (refine aa_.call (dA_ _ ha _) ?_)
  | (refine aa_.q (dA_ _ ha _) ?_)
  | (refine aa_.call (dA_ _ hbb _) ?_)
  | (refine aa_.q (dA_ _ hbb _) ?_)
  | (refine aa_.call (eq_ _ ha _) ?_)
  | (refine aa_.q (eq_ _ ha _) ?_)
  | (refine aa_.call (eq_ _ hbb _) ?_)
  | (refine aa_.q (eq_ _ hbb _) ?_)
  | (refine aa_.call (f3_ _ _ _) ?_)
  | (refine aa_.q (f3_ _ _ _) ?_)
  | (refine aa_.call (ei_ _ _ _) ?_)
  | (refine aa_.q (ei_ _ _ _) ?_)
  | ((first | (apply aQ_; assumption) | (apply aR_; assumption) | (apply a8_; assumption) | (apply a7_; assumption)); intro hb; try simp only [hb])
  | ((first | (apply aF_; assumption) | (apply aE_; assumption) | (apply aN_; assumption) | (apply aO_; assumption)); intro hb; try simp only [hb])
  | ((first | apply ay_ | apply aB_ | apply am_ | apply ao_) <;> intro hb <;> (try simp only [hb]) <;> (first | have hp := aZ_ hb | have hp := aX_ hb | have hp := a0_ hb | have hp := aY_ hb | skip)))
def AF_ : LC :=
 .seq (.ops [.s 4 (.mov (.const (.bool false)))]) (.seq (.ops [.m 7 0, .c1 8 221 7, .m 5 8]) (.seq (.ops [.m 9 1, .c1 10 221 9, .m 6 10]) (.seq (.seq (.ops [.m 11 5, .m 12 11, .g 13 12 true (.mov (.tmp 6)), .pf 14 12 13])
 (.cond (.tmp 14) (.seq (.ops [.m 15 0, .c1 16 222 15, .m 17 1, .c1 18 222 17, .bb 19 .lss false 16 18, .m 4 19]) .ret) .skip)) (.seq (.seq (.ops [.m 20 5, .m 21 6, .bb 22 .neq true 20 21]) (.cond (.tmp 22) (.seq (.ops
 [.m 23 5, .m 4 23]) .ret) .skip)) (.seq (.ops [.m 24 0, .m 25 1, .bb 26 .lss false 24 25, .m 4 26]) .ret)))))
def w4_ : LF := ⟨2, 27, AF_, [.tmp 4]⟩
theorem ym_ : at_ Tryz.prog Tryz.f194 w4_ := ah_
theorem fr_ (a b : ByteArray) (ha : a.size ≤ 1048576) (hbb : b.size ≤ 1048576) (h : List Row) : aa_ Tryz.prog 194 [.val (.string a), .val (.string b)] h (.val (.bool (before a.data.toList b.data.toList))) := by
 refine ak_ mixed Tryz.func194 ym_ rfl rfl ?_ h
 simp (disch := omega) only [w4_, AF_, go_sem, reduceCtorEq, ↓reduceIte]
 repeat' (first
  | exact af_ _ _
  | (refine ae_ ?_; simp only [before, *]; first | rfl | (simp; done))
  | (refine ae_ ?_; simp_all [before]; done)
  | simp (disch := omega) only [m4_, o0_, go_sem, Nat.reduceEqDiff, reduceCtorEq, ↓reduceIte]
  | (refine aa_.call (ed_ _ ha _) ?_)
  | (refine aa_.q (ed_ _ ha _) ?_)
  | (refine aa_.call (ed_ _ hbb _) ?_)
  | (refine aa_.q (ed_ _ hbb _) ?_)
  | (refine aa_.call (fm_ _ ha _) ?_)
  | (refine aa_.q (fm_ _ ha _) ?_)
  | (refine aa_.call (fm_ _ hbb _) ?_)
  | (refine aa_.q (fm_ _ hbb _) ?_)
  | ((first | (apply aQ_; assumption) | (apply aR_; assumption) | (apply a8_; assumption) | (apply a7_; assumption)); intro hb; try simp only [hb])
  | ((first | (apply aF_; assumption) | (apply aE_; assumption) | (apply aN_; assumption) | (apply aO_; assumption)); intro hb; try simp only [hb])
  | ((first | apply ay_ | apply aB_ | apply am_ | apply ao_) <;> intro hb <;> (try simp only [hb]) <;> (first | have hp := aZ_ hb | have hp := aX_ hb | have hp := a0_ hb | have hp := aY_ hb | skip)))
def zs_ : LC :=
 .seq (.ops [.s 4 (.mov (.const (.bool false)))]) (.seq (.ops [.m 5 0, .m 6 1, .c2 7 194 5 6, .m 4 7]) .ret)
def wc_ : LF := ⟨2, 8, zs_, [.tmp 4]⟩
theorem zr_ : at_ Tryz.prog Tryz.f200 wc_ := ah_
theorem dp_ (a b : ByteArray) (ha : a.size ≤ 1048576) (hbb : b.size ≤ 1048576) (h : List Row) : aa_ Tryz.prog 200 [.val (.string a), .val (.string b)] h (.val (.bool (before a.data.toList b.data.toList))) := by
 refine ak_ mixed Tryz.func200 zr_ rfl rfl ?_ h
 simp (disch := omega) only [wc_, zs_, go_sem, Nat.reduceEqDiff, reduceCtorEq, ↓reduceIte]
 repeat' (first
  | exact af_ _ _
  | simp (disch := omega) only [go_sem, ↓reduceIte]
  | (refine aa_.call (fr_ _ _ ha hbb _) ?_)
  | (refine aa_.q (fr_ _ _ ha hbb _) ?_)
  | ((first | (apply aF_; assumption) | (apply aE_; assumption) | (apply aN_; assumption) | (apply aO_; assumption)); intro hb; try simp only [hb])
  | ((first | apply am_ | apply ao_) <;> intro hb <;> (try simp only [hb]) <;> (first | have hp := aZ_ hb | have hp := aX_ hb | have hp := a0_ hb | have hp := aY_ hb | skip)))
def ga_ (c : ByteArray → ByteArray → Int) : List ByteArray → List ByteArray → Int
 | [], [] => 0
 | [], _ :: _ => -1
 | _ :: _, [] => 1
 | x :: xs, y :: ys => if c x y = 0 then ga_ c xs ys else c x y
theorem ss_ (c : ByteArray → ByteArray → Int) (xs ys : List ByteArray) (k : Nat) (h1 : k < xs.length) (h2 : k < ys.length) : ga_ c (xs.drop k) (ys.drop k) = if c xs[k] ys[k] = 0 then ga_ c (xs.drop (k + 1)) (ys.drop (k + 1)) else c xs[k] ys[k] := by
 rw [List.drop_eq_getElem_cons h1, List.drop_eq_getElem_cons h2]; rfl
theorem ry_ (c : ByteArray → ByteArray → Int) (xs ys : List ByteArray) (k : Nat) (h1 : k < xs.length) (h2 : ys.length ≤ k) : ga_ c (xs.drop k) (ys.drop k) = 1 := by
 rw [List.drop_eq_getElem_cons h1, List.drop_eq_nil_of_le h2]; rfl
theorem qr_ (c : ByteArray → ByteArray → Int) (xs ys : List ByteArray) (k : Nat) (h1 : xs.length ≤ k) (h2 : k < ys.length) : ga_ c (xs.drop k) (ys.drop k) = -1 := by
 rw [List.drop_eq_nil_of_le h1, List.drop_eq_getElem_cons h2]; rfl
theorem sU_ (c : ByteArray → ByteArray → Int) (xs ys : List ByteArray) (k : Nat) (h1 : xs.length ≤ k) (h2 : ys.length ≤ k) : ga_ c (xs.drop k) (ys.drop k) = 0 := by
 rw [List.drop_eq_nil_of_le h1, List.drop_eq_nil_of_le h2]; rfl
def zI_ : LC :=
 .seq (.ops [.ki 6 0]) (.seq (.seq (.ops [.m 11 0, .ll 12 11, .ki 13 0]) (.block 0 (.loop (.seq (.ops [.bb 14 .lss false 13 12]) (.seq (.cond (.tmp 14) .skip (.exit 0)) (.seq (.block 1 (.seq (.ops [.m 15 13, .ia 16 1 11
 13, .ln 17 16, .m 7 15, .m 8 17]) (.seq (.seq (.ops [.m 18 7, .m 19 1, .ll 20 19, .bb 21 .geq false 18 20]) (.cond (.tmp 21) (.seq (.ops [.ki 6 1]) .ret) .skip)) (.seq (.ops [.m 22 1, .m 23 7, .ia 24 1 22 23, .ln 25 24,
 .m 9 25]) (.seq (.ops [.m 26 2, .m 27 8, .m 28 9, .s 29 (.callv (.tmp 26) [.tmp 27, .tmp 28]), .m 10 29]) (.seq (.ops [.m 30 10, .bk 31 .neq false 30 0]) (.cond (.tmp 31) (.seq (.ops [.m 32 10, .m 6 32]) .ret)
 .skip))))))) (.ops [.bk 33 .add false 13 1, .m 13 33]))))))) (.seq (.seq (.ops [.m 34 0, .ll 35 34, .m 36 1, .ll 37 36, .bb 38 .lss false 35 37]) (.cond (.tmp 38) (.seq (.ops [.s 6 (.mov (.const (.int .i64 (-1))))])
 .ret) .skip)) (.seq (.ops [.ki 6 0]) .ret)))
def ws_ : LF := ⟨3, 39, zI_, [.tmp 6]⟩
theorem Ak_ : at_ Tryz.prog Tryz.f173 ws_ := ah_
theorem el_ (xs ys : List ByteArray) (c : ByteArray → ByteArray → Int) (g : Nat) (hx : xs.length ≤ 1048576) (hy : ys.length ≤ 1048576) (hc : cu_ Tryz.prog g = true) (hp : ∀ x ∈ xs, ∀ y ∈ ys, ∀ h, aa_ Tryz.prog g [.val (.string x), .val (.string y)] h (.val (.int .i64 (c x y)))) (h : List Row) :
 aa_ Tryz.prog 173 [.list 0 1 (xs.map aj_), .list 0 1 (ys.map aj_), .fn g [] []] h (.val (.int .i64 (ga_ c xs ys))) := by
 refine ak_ mixed Tryz.func173 Ak_ rfl rfl ?_ h
 simp (disch := omega) only [ws_, zI_, go_sem, reduceCtorEq, Int.reduceNeg, ↓reduceIte]
 refine aM_ (fun n t h => ∃ k : Nat, t 0 = .list 0 1 (xs.map aj_) ∧ t 1 = .list 0 1 (ys.map aj_) ∧ t 2 = .fn g [] [] ∧ t 11 = .list 0 1 (xs.map aj_) ∧ t 12 = .val (.int .i64 xs.length) ∧ t 13 = .val (.int .i64 k) ∧ n = xs.length - k ∧ k ≤ xs.length ∧ k ≤ ys.length ∧ ga_ c xs ys = ga_ c (xs.drop k) (ys.drop k)) xs.length ?_ ?_
 ·exact ⟨0, rfl, rfl, rfl, rfl, rfl, rfl, rfl, Nat.zero_le _, Nat.zero_le _, rfl⟩
 ·rintro J hJ n t h ⟨k, t0, t1, t2, t11, t12, t13, rfl, hk, hk2, hS⟩
  by_cases hlt : k < xs.length
  ·by_cases hlt2 : k < ys.length
   ·have hge : ¬ ((ys.length : Int) ≤ k) := by omega
    rw [ss_ c xs ys k hlt hlt2] at hS
    simp (disch := omega) only [t1, t2, t11, t12, t13, hlt, hge, hc, aj_, go_sem, Nat.reduceEqDiff, Int.reduceNeg, ↓reduceIte]
    refine aa_.call (hp xs[k] (List.getElem_mem hlt) ys[k] (List.getElem_mem hlt2) _) ?_
    by_cases e : c xs[k] ys[k] = 0
    ·simp (disch := omega) only [t13, e, go_sem, Nat.reduceEqDiff, Int.reduceNeg, ↓reduceIte]
     exact ⟨xs.length - (k + 1), by omega, hJ _ _ _ ⟨k + 1, by simp [upd, t0], by simp [upd, t1], by simp [upd, t2], by simp [upd, t11], by simp [upd, t12], by simp [upd], rfl, by omega, by omega, by rw [hS, if_pos e]⟩⟩
    ·simp (disch := omega) only [e, go_sem, Nat.reduceEqDiff, Int.reduceNeg, ↓reduceIte]
     exact aD_ (by rw [hS, if_neg e])
   ·have hge : ((ys.length : Int) ≤ k) := by omega
    simp (disch := omega) only [t1, t11, t12, t13, hlt, hge, aj_, go_sem, Nat.reduceEqDiff, Int.reduceNeg, ↓reduceIte]
    exact aD_ (by rw [hS, ry_ c xs ys k hlt (by omega)])
  ·by_cases hlt2 : k < ys.length
   ·have hl : (xs.length : Int) < ys.length := by omega
    simp (disch := omega) only [t0, t1, t12, t13, hlt, hl, go_sem, Nat.reduceEqDiff, reduceCtorEq, Int.reduceNeg, ↓reduceIte]
    exact aD_ (by rw [hS, qr_ c xs ys k (by omega) hlt2])
   ·have hl : ¬ ((xs.length : Int) < ys.length) := by omega
    simp (disch := omega) only [t0, t1, t12, t13, hlt, hl, go_sem, Nat.reduceEqDiff, reduceCtorEq, Int.reduceNeg, ↓reduceIte]
    exact aD_ (by rw [hS, sU_ c xs ys k (by omega) (by omega)])
theorem jM_ : ∀ xs ys : List ByteArray, ga_ (fun a b => db_ a.data.toList b.data.toList) xs ys = fp_ (bss xs) (bss ys)
 | [], [] => rfl
 | [], _ :: _ => rfl
 | _ :: _, [] => rfl
 | x :: xs, y :: ys => by simp only [ga_, bss, List.map_cons, fp_]; rw [jM_ xs ys]
theorem eH_ {xs : List ByteArray} {b : Nat} (h : au_ ByteArray.size xs ≤ b) {s : ByteArray} (hs : s ∈ xs) : s.size ≤ b := by
 have := cs_ (f := ByteArray.size) hs; omega
def zS_ : LC :=
 .seq (.ops [.ki 4 0]) (.seq (.ops [.m 5 0, .m 6 1, .s 7 (.call 173 [.tmp 5, .tmp 6, .func 174]), .m 4 7]) .ret)
def wd_ : LF := ⟨2, 8, zS_, [.tmp 4]⟩
theorem Bz_ : at_ Tryz.prog Tryz.f138 wd_ := ah_
theorem ex_ (a b : List ByteArray) (ha : au_ ByteArray.size a ≤ 1048576) (hb : au_ ByteArray.size b ≤ 1048576) (h : List Row) : aa_ Tryz.prog 138 [.list 0 1 (a.map aj_), .list 0 1 (b.map aj_)] h (.val (.int .i64 (fp_ (bss a) (bss b)))) := by
 refine ak_ mixed Tryz.func138 Bz_ rfl rfl ?_ h
 simp (disch := omega) only [wd_, zS_, go_sem, Nat.reduceEqDiff, reduceCtorEq, ↓reduceIte]
 repeat' (first
  | exact af_ _ _
  | exact aD_ (jM_ a b)
  | simp (disch := omega) only [go_sem, ↓reduceIte]
  | (refine aa_.call (el_ a b (fun a b => db_ a.data.toList b.data.toList) 174 (aw_ ha) (aw_ hb) (by kernel_rfl) (fun x hx y hy h => eM_ x y (eH_ ha hx) (eH_ hb hy) h) _) ?_)
  | (refine aa_.q (el_ a b (fun a b => db_ a.data.toList b.data.toList) 174 (aw_ ha) (aw_ hb) (by kernel_rfl) (fun x hx y hy h => eM_ x y (eH_ ha hx) (eH_ hb hy) h) _) ?_)
  | ((first | (apply aF_; assumption) | (apply aE_; assumption) | (apply aN_; assumption) | (apply aO_; assumption)); intro hb; try simp only [hb])
  | ((first | apply am_ | apply ao_) <;> intro hb <;> (try simp only [hb]) <;> (first | have hp := aZ_ hb | have hp := aX_ hb | have hp := a0_ hb | have hp := aY_ hb | skip)))
def orL : List Int → Int
 | [] => 0
 | x :: xs => if x = 0 then orL xs else x
theorem u3_ (xs : List Int) (k : Nat) (h : k < xs.length) : orL (xs.drop k) = if xs[k] = 0 then orL (xs.drop (k + 1)) else xs[k] := by
 rw [List.drop_eq_getElem_cons h]; rfl
theorem xD_ (xs : List Int) (k : Nat) (h : xs.length ≤ k) : orL (xs.drop k) = 0 := by
 rw [List.drop_eq_nil_of_le h]; rfl
def yP_ : LC :=
 .seq (.ops [.ki 2 0]) (.seq (.ops [.ki 3 0]) (.seq (.seq (.ops [.m 6 0, .ll 7 6, .ki 8 0]) (.block 0 (.loop (.seq (.ops [.bb 9 .lss false 8 7]) (.seq (.cond (.tmp 9) .skip (.exit 0)) (.seq (.block 1 (.seq (.ops [.ia 10 1
 6 8, .ln 11 10, .m 5 11]) (.seq (.ops [.m 12 5, .m 13 3, .bb 14 .neq false 12 13]) (.cond (.tmp 14) (.seq (.ops [.m 15 5, .m 2 15]) .ret) .skip)))) (.ops [.bk 16 .add false 8 1, .m 8 16]))))))) (.seq (.ops [.m 17 3, .m 2
 17]) .ret)))
def wi_ : LF := ⟨1, 18, yP_, [.tmp 2]⟩
theorem yg_ : at_ Tryz.prog Tryz.f136 wi_ := ah_
theorem ol_ (xs : List Int) (hx : xs.length ≤ 1048576) (h : List Row) : aa_ Tryz.prog 136 [.list 0 1 (xs.map fun x => [.val (.int .i64 x)])] h (.val (.int .i64 (orL xs))) := by
 refine ak_ mixed Tryz.func136 yg_ rfl rfl ?_ h
 simp (disch := omega) only [wi_, yP_, go_sem, reduceCtorEq, ↓reduceIte]
 refine aM_ (fun n t h => ∃ k : Nat, t 3 = .val (.int .i64 0) ∧ t 6 = .list 0 1 (xs.map fun x => [.val (.int .i64 x)]) ∧ t 7 = .val (.int .i64 xs.length) ∧ t 8 = .val (.int .i64 k) ∧ n = xs.length - k ∧ k ≤ xs.length ∧ orL xs = orL (xs.drop k)) xs.length ?_ ?_
 ·exact ⟨0, rfl, rfl, rfl, rfl, rfl, Nat.zero_le _, rfl⟩
 ·rintro J hJ n t h ⟨k, t3, t6, t7, t8, rfl, hk, hS⟩
  by_cases hlt : k < xs.length
  ·rw [u3_ xs k hlt] at hS
   by_cases e : xs[k] = 0
   ·simp (disch := omega) only [t3, t6, t7, t8, hlt, e, go_sem, Nat.reduceEqDiff, ↓reduceIte]
    exact ⟨xs.length - (k + 1), by omega, hJ _ _ _ ⟨k + 1, by simp [upd, t3], by simp [upd, t6], by simp [upd, t7], by simp [upd], rfl, by omega, by rw [hS, if_pos e]⟩⟩
   ·simp (disch := omega) only [t3, t6, t7, t8, hlt, e, go_sem, Nat.reduceEqDiff, ↓reduceIte]
    exact aD_ (by rw [hS, if_neg e])
  ·simp (disch := omega) only [t3, t7, t8, hlt, go_sem, Nat.reduceEqDiff, ↓reduceIte]
   exact aD_ (by rw [hS, xD_ _ _ (by omega)])
theorem rt_ (a b : Int) (h : List Row) : aa_ Tryz.prog 136 [.list 0 1 [[.val (.int .i64 a)], [.val (.int .i64 b)]]] h (.val (.int .i64 (if a = 0 then b else a))) := by
 have := ol_ [a, b] (by simp) h
 have e : orL [a, b] = if a = 0 then b else a := by
  simp only [orL]; split
  ·split
   ·omega
   ·rfl
  ·rfl
 rwa [e] at this
theorem r5_ (a b : Int) (E : Tag) (l : Nat) (H : List Row) (K : AV → List Row → Prop) (hl : H[l]? = some ⟨E, 1, [[.val (.int .i64 a)], [.val (.int .i64 b)]]⟩) (hk : K (.val (.int .i64 (if a = 0 then b else a))) H) : callSem Tryz.prog 136 [.own l 2] H K :=
 pt_ (rs := [.list 0 1 [[.val (.int .i64 a)], [.val (.int .i64 b)]]]) (fun h => rt_ a b h) (show a1_ H [.own l 2] _ from ⟨_, [], rfl, .inr ⟨2, [l], ⟨_, [[.val (.int .i64 a)], [.val (.int .i64 b)]], [], hl, rfl, by
  refine ⟨_, _, [], [], rfl, rfl, ⟨_, _, [], [], rfl, rfl, ⟨rfl, .inl rfl⟩, ⟨rfl, rfl⟩⟩, ⟨_, _, [], [], rfl, rfl, ⟨_, _, [], [], rfl, rfl, ⟨rfl, .inl rfl⟩, ⟨rfl, rfl⟩⟩, ⟨rfl, rfl⟩⟩⟩, rfl, rfl⟩⟩, rfl⟩) hk
def c89 : LC :=
 .seq (.ops [.ki 8 0]) (.seq (.ops [.m 9 0, .m 10 2, .c2 11 137 9 10, .m 12 1, .m 13 3, .c2 14 138 12 13, .s 15 (.buildSlice 3 1 (.int .i64 0) 2 [(0, .tmp 11), (1, .tmp 14)]), .c1 16 136 15, .m 8 16]) .ret)
def BS_ : LF := ⟨4, 17, c89, [.tmp 8]⟩
theorem Cx_ : at_ Tryz.prog Tryz.f89 BS_ := ah_
theorem dv_ (n : ByteArray) (s : List ByteArray) (o : ByteArray) (os : List ByteArray) (hs : au_ ByteArray.size s ≤ 1048576) (hos : au_ ByteArray.size os ≤ 1048576) (h : List Row) :
 aa_ Tryz.prog 89 [.val (.string n), .list 0 1 (s.map aj_), .val (.string o), .list 0 1 (os.map aj_)] h (.val (.int .i64 (gs_ n.data.toList (bss s) o.data.toList (bss os)))) := by
 refine ak_ mixed Tryz.func89 Cx_ rfl rfl ?_ h
 simp (disch := omega) only [BS_, c89, go_sem, Nat.reduceEqDiff, reduceCtorEq, ↓reduceIte]
 refine aa_.call (ei_ _ _ _) ?_
 simp (disch := omega) only [go_sem, Nat.reduceEqDiff, ↓reduceIte]
 refine aa_.call (ex_ _ _ hs hos _) ?_
 simp (disch := omega) only [go_sem, Nat.reduceEqDiff, ↓reduceIte]
 refine r5_ _ _ _ _ _ _ rfl ?_
 simp (disch := omega) only [go_sem, ↓reduceIte]
 exact aD_ rfl
def dG_ (xs : List ByteArray) : ByteArray := xs.getLastD (txt [])
theorem fY_ (xs : List ByteArray) (h : xs.length - 1 < xs.length) : xs[xs.length - 1] = dG_ xs := by
 have hne : xs ≠ [] := by intro e; subst e; simp at h
 rw [← List.getLast_eq_getElem hne, dG_, List.getLastD_eq_getLast?, List.getLast?_eq_some_getLast hne]; rfl
def bN_ (xs : List ByteArray) : List ByteArray := xs.take (xs.length - 1)
def gf_ (xs : List ByteArray) : Bool := decide (0 < (xs.length : Int)) && (bc_ xs || (decide (dG_ xs = txt []) && bc_ (bN_ xs)))
def vw_ : LC :=
 .seq (.ops [.s 2 (.mov (.const (.bool false)))]) (.seq (.ops [.m 4 0, .ll 5 4, .m 3 5]) (.seq (.ops [.m 6 3, .bk 7 .gtr false 6 0, .m 8 7, .g 9 8 true (.mov (.tmp 0)), .g 10 8 true (.call 143 [.tmp 9]), .g 11 8 true
 (.mov (.tmp 10)), .g 12 11 false (.mov (.tmp 0)), .g 13 11 false (.mov (.tmp 3)), .g 14 11 false (.bin .sub false (.tmp 13) (.const (.int .i64 1))), .g 15 11 false (.indexAddr 1 (.tmp 12) (.tmp 14)), .g 16 11 false
 (.load none (.tmp 15)), .g 17 11 false (.bin .eql false (.tmp 16) (.const (.string ⟨#[]⟩))), .g 18 11 false (.mov (.tmp 17)), .g 19 18 true (.mov (.tmp 0)), .g 20 18 true (.mov (.tmp 3)), .g 21 18 true (.bin .sub false
 (.tmp 20) (.const (.int .i64 1))), .g 22 18 true (.sliceSl 1 (.tmp 19) none (some (.tmp 21))), .g 23 18 true (.call 143 [.tmp 22]), .g 24 11 false (.pick (.tmp 18) (.tmp 23) (.const (.bool false))), .g 25 8 true (.pick
 (.tmp 11) (.const (.bool true)) (.tmp 24)), .pf 26 8 25, .m 2 26]) .ret))
def sj_ : LF := ⟨1, 27, vw_, [.tmp 2]⟩
theorem yo_ : at_ Tryz.prog Tryz.f142 sj_ := ah_
theorem g6_ (xs : List ByteArray) (hx : xs.length ≤ 1048576) (h : List Row) : aa_ Tryz.prog 142 [.list 0 1 (xs.map aj_)] h (.val (.bool (gf_ xs))) := by
 refine ak_ mixed Tryz.func142 yo_ rfl rfl ?_ h
 by_cases h0 : xs.length = 0
 ·have h0' : ((0 : Int) < xs.length) = False := eq_false (by omega)
  simp (disch := omega) only [sj_, vw_, h0', go_sem, Nat.reduceEqDiff, reduceCtorEq, ↓reduceIte]
  exact ae_ (by simp [gf_, h0])
 ·have h0' : ((0 : Int) < xs.length) = True := eq_true (by omega)
  have hsub : ((xs.length : Int) - 1) = ((xs.length - 1 : Nat) : Int) := by omega
  have hlt : xs.length - 1 < xs.length := by omega
  have hfr : xs.take (xs.length - 1) = bN_ xs := rfl
  have hfl : (bN_ xs).length ≤ 1048576 := by rw [bN_, List.length_take]; omega
  have hw : IntKind.i64.wrap ((xs.length : Int) - 1) = ((xs.length - 1 : Nat) : Int) := by rw [ap_ (n := (xs.length : Int) - 1) (by omega) (by omega)]; omega
  simp (disch := omega) only [sj_, vw_, h0', go_sem, Nat.reduceEqDiff, reduceCtorEq, ↓reduceIte]
  repeat' (first
   | exact af_ _ _
   | (refine ae_ ?_; simp only [gf_, *, Bool.true_and, Bool.and_false, Bool.false_and, Bool.true_or, Bool.false_or, decide_true, Bool.and_self, Bool.or_self]; done)
   | simp (disch := omega) only [hw, eV_, hfr, fY_, aj_, go_sem, Nat.reduceEqDiff, reduceCtorEq, ↓reduceIte]
   | (refine aa_.call (b3_ _ hx _) ?_)
   | (refine aa_.q (b3_ _ hx _) ?_)
   | (refine aa_.call (b3_ _ hfl _) ?_)
   | (refine aa_.q (b3_ _ hfl _) ?_)
   | ((first | (apply aQ_; assumption) | (apply aR_; assumption) | (apply a8_; assumption) | (apply a7_; assumption)); intro hb; try simp only [hb])
   | ((first | (apply aF_; assumption) | (apply aE_; assumption) | (apply aN_; assumption) | (apply aO_; assumption)); intro hb; try simp only [hb])
   | ((first | apply ay_ | apply aB_ | apply am_ | apply ao_) <;> intro hb <;> (try simp only [hb]) <;> (first | have hp := aZ_ hb | have hp := aX_ hb | have hp := a0_ hb | have hp := aY_ hb | skip)))
def bv_ (x : ab_) : Bool := bH_ x.Name && be_ x && (if x.Kind = 5 then decide ((x.Subs.length : Int) ≤ 4) && gf_ x.Subs else bc_ x.Subs)
def c92 : LC :=
 .seq (.ops [.s 1 (.box 79 (.tmp 0)), .s 2 (.mov (.const (.bool false)))]) (.seq (.seq (.ops [.fa 3 1 1, .ln 4 3, .c1 5 140 4, .nt 6 5, .m 7 6, .g 8 7 false (.load (some 5) (.tmp 1)), .g 9 7 false (.call 141 [.tmp 8]), .g
 10 7 false (.un .not (.tmp 9)), .pt 11 7 10]) (.cond (.tmp 11) (.seq (.ops [.s 2 (.mov (.const (.bool false)))]) .ret) .skip)) (.seq (.seq (.ops [.fa 12 0 1, .ln 13 12, .bk 14 .eql false 13 5]) (.cond (.tmp 14) (.seq
 (.ops [.fa 15 2 1, .ln 16 15, .ll 17 16, .bk 18 .leq false 17 4, .m 19 18, .g 20 19 true (.fieldAddr 2 (.tmp 1)), .g 21 19 true (.load none (.tmp 20)), .g 22 19 true (.call 142 [.tmp 21]), .pf 23 19 22, .m 2 23]) .ret)
 .skip)) (.seq (.ops [.fa 24 2 1, .ln 25 24, .c1 26 143 25, .m 2 26]) .ret)))
def uM_ : LF := ⟨1, 27, c92, [.tmp 2]⟩
theorem C1_ : at_ Tryz.prog Tryz.f92 uM_ := ah_
theorem hS_ (x : ab_) (hx : ab_.sz x ≤ 1048576) (h : List Row) : aa_ Tryz.prog 92 [.agg (ab_.cells x)] h (.val (.bool (bv_ x))) := by
 refine ak_ mixed Tryz.func92 C1_ rfl rfl ?_ h
 have h1 := ab_.sz_Name hx
 have h2 := aw_ (ab_.sz_Subs hx)
 by_cases k5 : x.Kind = 5
 ·simp (disch := omega) only [uM_, c92, ab_.cells, k5, go_sem, Nat.reduceEqDiff, Nat.reduceAdd, ↓reduceIte]
  have hN : bv_ x = (bH_ x.Name && be_ x && (decide ((x.Subs.length : Int) ≤ 4) && gf_ x.Subs)) := by rw [bv_, if_pos k5]
  have hR := fun h => fR_ x hx h
  simp only [ab_.cells, k5] at hR
  repeat' (first
   | exact af_ _ _
   | (refine ae_ ?_; rw [hN]; simp only [*, Bool.true_and, Bool.and_false, Bool.false_and, decide_true, decide_false, Bool.and_self]; done)
   | simp (disch := omega) only [go_sem, Nat.reduceEqDiff, Nat.reduceAdd, ↓reduceIte]
   | (refine aa_.call (du_ _ h1 _) ?_)
   | (refine aa_.q (du_ _ h1 _) ?_)
   | (refine aa_.call (hR _) ?_)
   | (refine aa_.q (hR _) ?_)
   | (refine aa_.call (g6_ _ h2 _) ?_)
   | (refine aa_.q (g6_ _ h2 _) ?_)
   | ((first | (apply aQ_; assumption) | (apply aR_; assumption) | (apply a8_; assumption) | (apply a7_; assumption)); intro hb; try simp only [hb])
   | ((first | (apply aF_; assumption) | (apply aE_; assumption) | (apply aN_; assumption) | (apply aO_; assumption)); intro hb; try simp only [hb])
   | ((first | apply ay_ | apply aB_ | apply am_ | apply ao_) <;> intro hb <;> (try simp only [hb]) <;> (first | have hp := aZ_ hb | have hp := aX_ hb | have hp := a0_ hb | have hp := aY_ hb | skip)))
 ·have hN : bv_ x = (bH_ x.Name && be_ x && bc_ x.Subs) := by rw [bv_, if_neg k5]
  simp (disch := omega) only [uM_, c92, ab_.cells, go_sem, Nat.reduceEqDiff, Nat.reduceAdd, ↓reduceIte]
  repeat' (first
   | exact af_ _ _
   | (refine ae_ ?_; rw [hN]; simp only [*, Bool.true_and, Bool.and_false, Bool.false_and, Bool.and_self]; done)
   | simp (disch := omega) only [k5, go_sem, Nat.reduceEqDiff, Nat.reduceAdd, ↓reduceIte]
   | (refine aa_.call (du_ _ h1 _) ?_)
   | (refine aa_.q (du_ _ h1 _) ?_)
   | (refine aa_.call (fR_ x hx _) ?_)
   | (refine aa_.q (fR_ x hx _) ?_)
   | (refine aa_.call (b3_ _ h2 _) ?_)
   | (refine aa_.q (b3_ _ h2 _) ?_)
   | ((first | (apply aQ_; assumption) | (apply aR_; assumption) | (apply a8_; assumption) | (apply a7_; assumption)); intro hb; try simp only [hb])
   | ((first | (apply aF_; assumption) | (apply aE_; assumption) | (apply aN_; assumption) | (apply aO_; assumption)); intro hb; try simp only [hb])
   | ((first | apply ay_ | apply aB_ | apply am_ | apply ao_) <;> intro hb <;> (try simp only [hb]) <;> (first | have hp := aZ_ hb | have hp := aX_ hb | have hp := a0_ hb | have hp := aY_ hb | skip)))
def bC_ (x : ab_) : Bool := decide (x.Kind = 1) || decide (x.Kind = 4) || decide (x.Kind = 5) || decide (x.Kind = 6)
def b2_ (x : ab_) : Bool := decide (x.Kind = 2) || decide (x.Kind = 3)
def c81 : LC :=
 .seq (.ops [.s 1 (.box 79 (.tmp 0)), .s 2 (.mov (.const (.bool false)))]) (.seq (.ops [.fa 3 0 1, .ln 4 3, .bk 5 .eql false 4 1, .m 6 5, .g 7 6 false (.fieldAddr 0 (.tmp 1)), .g 8 6 false (.load none (.tmp 7)), .g 9 6
 false (.bin .eql false (.tmp 8) (.const (.int .i64 4))), .pt 10 6 9, .m 11 10, .g 12 11 false (.fieldAddr 0 (.tmp 1)), .g 13 11 false (.load none (.tmp 12)), .g 14 11 false (.bin .eql false (.tmp 13) (.const (.int .i64
 5))), .pt 15 11 14, .m 16 15, .g 17 16 false (.fieldAddr 0 (.tmp 1)), .g 18 16 false (.load none (.tmp 17)), .g 19 16 false (.bin .eql false (.tmp 18) (.const (.int .i64 6))), .pt 20 16 19, .m 2 20]) .ret)
def BT_ : LF := ⟨1, 21, c81, [.tmp 2]⟩
theorem Cw_ : at_ Tryz.prog Tryz.f81 BT_ := ah_
theorem h4_ (x : ab_)  (h : List Row) : aa_ Tryz.prog 81 [.agg (ab_.cells x)] h (.val (.bool (bC_ x))) := by
 refine ak_ mixed Tryz.func81 Cw_ rfl rfl ?_ h
 simp (disch := omega) only [BT_, c81, ab_.cells, go_sem, Nat.reduceEqDiff, Nat.reduceAdd, ↓reduceIte]
 repeat' (first
  | exact af_ _ _
  | (refine ae_ ?_; simp [bC_, *]; done)
  | simp (disch := omega) only [go_sem, Nat.reduceEqDiff, ↓reduceIte]
  | ((first | (apply aQ_; assumption) | (apply aR_; assumption) | (apply a8_; assumption) | (apply a7_; assumption)); intro hb; try simp only [hb])
  | ((first | (apply aF_; assumption) | (apply aE_; assumption) | (apply aN_; assumption) | (apply aO_; assumption)); intro hb; try simp only [hb])
  | ((first | apply ay_ | apply aB_ | apply am_ | apply ao_) <;> intro hb <;> (try simp only [hb]) <;> (first | have hp := aZ_ hb | have hp := aX_ hb | have hp := a0_ hb | have hp := aY_ hb | skip)))
def yC_ : LC :=
 .seq (.ops [.s 1 (.box 79 (.tmp 0)), .s 2 (.mov (.const (.bool false)))]) (.seq (.ops [.fa 3 0 1, .ln 4 3, .bk 5 .eql false 4 2, .m 6 5, .g 7 6 false (.fieldAddr 0 (.tmp 1)), .g 8 6 false (.load none (.tmp 7)), .g 9 6
 false (.bin .eql false (.tmp 8) (.const (.int .i64 3))), .pt 10 6 9, .m 2 10]) .ret)
def wL_ : LF := ⟨1, 11, yC_, [.tmp 2]⟩
theorem yn_ : at_ Tryz.prog Tryz.f120 wL_ := ah_
theorem mB_ (x : ab_)  (h : List Row) : aa_ Tryz.prog 120 [.agg (ab_.cells x)] h (.val (.bool (b2_ x))) := by
 refine ak_ mixed Tryz.func120 yn_ rfl rfl ?_ h
 simp (disch := omega) only [wL_, yC_, ab_.cells, go_sem, Nat.reduceEqDiff, Nat.reduceAdd, ↓reduceIte]
 repeat' (first
  | exact af_ _ _
  | (refine ae_ ?_; simp [b2_, *]; done)
  | simp (disch := omega) only [go_sem, Nat.reduceEqDiff, ↓reduceIte]
  | ((first | (apply aQ_; assumption) | (apply aR_; assumption) | (apply a8_; assumption) | (apply a7_; assumption)); intro hb; try simp only [hb])
  | ((first | (apply aF_; assumption) | (apply aE_; assumption) | (apply aN_; assumption) | (apply aO_; assumption)); intro hb; try simp only [hb])
  | ((first | apply ay_ | apply aB_ | apply am_ | apply ao_) <;> intro hb <;> (try simp only [hb]) <;> (first | have hp := aZ_ hb | have hp := aX_ hb | have hp := a0_ hb | have hp := aY_ hb | skip)))
def c94 : LC :=
 .seq (.ops [.s 1 (.box 79 (.tmp 0)), .s 2 (.mov (.const (.bool false)))]) (.seq (.ops [.fa 3 0 1, .ln 4 3, .bk 5 .eql false 4 2, .m 6 5, .g 7 6 false (.fieldAddr 0 (.tmp 1)), .g 8 6 false (.load none (.tmp 7)), .g 9 6
 false (.bin .eql false (.tmp 8) (.const (.int .i64 3))), .pt 10 6 9, .m 2 10]) .ret)
def zn_ : LF := ⟨1, 11, c94, [.tmp 2]⟩
theorem Cv_ : at_ Tryz.prog Tryz.f94 zn_ := ah_
theorem ma_ (x : ab_)  (h : List Row) : aa_ Tryz.prog 94 [.agg (ab_.cells x)] h (.val (.bool (b2_ x))) := by
 refine ak_ mixed Tryz.func94 Cv_ rfl rfl ?_ h
 simp (disch := omega) only [zn_, c94, ab_.cells, go_sem, Nat.reduceEqDiff, Nat.reduceAdd, ↓reduceIte]
 repeat' (first
  | exact af_ _ _
  | (refine ae_ ?_; simp [b2_, *]; done)
  | simp (disch := omega) only [go_sem, Nat.reduceEqDiff, ↓reduceIte]
  | ((first | (apply aQ_; assumption) | (apply aR_; assumption) | (apply a8_; assumption) | (apply a7_; assumption)); intro hb; try simp only [hb])
  | ((first | (apply aF_; assumption) | (apply aE_; assumption) | (apply aN_; assumption) | (apply aO_; assumption)); intro hb; try simp only [hb])
  | ((first | apply ay_ | apply aB_ | apply am_ | apply ao_) <;> intro hb <;> (try simp only [hb]) <;> (first | have hp := aZ_ hb | have hp := aX_ hb | have hp := a0_ hb | have hp := aY_ hb | skip)))
def cx_ (x : ab_) : Bool := bH_ x.Name && (if x.Kind = 5 then decide (0 < (x.Subs.length : Int)) && decide ((x.Subs.length : Int) ≤ 4) && bc_ (bN_ x.Subs) && (decide (dG_ x.Subs = txt []) || bL_ (dG_ x.Subs)) else bc_ x.Subs)
def oN_ : LC :=
 .seq (.ops [.s 1 (.box 79 (.tmp 0)), .s 2 (.mov (.const (.bool false)))]) (.seq (.seq (.ops [.fa 4 1 1, .ln 5 4, .c1 6 158 5, .nt 7 6]) (.cond (.tmp 7) (.seq (.ops [.s 2 (.mov (.const (.bool false)))]) .ret) .skip))
 (.seq (.seq (.ops [.fa 8 0 1, .ln 9 8, .bk 10 .neq false 9 5]) (.cond (.tmp 10) (.seq (.ops [.fa 11 2 1, .ln 12 11, .c1 13 125 12, .m 2 13]) .ret) .skip)) (.seq (.ops [.fa 14 2 1, .ln 15 14, .ll 16 15, .m 3 16]) (.seq
 (.seq (.ops [.m 17 3, .bk 18 .lss false 17 1, .m 19 18, .g 20 19 false (.mov (.tmp 3)), .g 21 19 false (.bin .gtr false (.tmp 20) (.const (.int .i64 4))), .pt 22 19 21, .m 23 22, .g 24 23 false (.fieldAddr 2 (.tmp 1)),
 .g 25 23 false (.load none (.tmp 24)), .g 26 23 false (.mov (.tmp 3)), .g 27 23 false (.bin .sub false (.tmp 26) (.const (.int .i64 1))), .g 28 23 false (.sliceSl 1 (.tmp 25) none (some (.tmp 27))), .g 29 23 false (.call
 125 [.tmp 28]), .g 30 23 false (.un .not (.tmp 29)), .pt 31 23 30]) (.cond (.tmp 31) (.seq (.ops [.s 2 (.mov (.const (.bool false)))]) .ret) .skip)) (.seq (.ops [.fa 32 2 1, .ln 33 32, .m 34 3, .bk 35 .sub false 34 1,
 .ia 36 1 33 35, .ln 37 36, .s 38 (.bin .eql false (.tmp 37) (.const (.string ⟨#[]⟩))), .m 39 38, .g 40 39 false (.fieldAddr 2 (.tmp 1)), .g 41 39 false (.load none (.tmp 40)), .g 42 39 false (.mov (.tmp 3)), .g 43 39
 false (.bin .sub false (.tmp 42) (.const (.int .i64 1))), .g 44 39 false (.indexAddr 1 (.tmp 41) (.tmp 43)), .g 45 39 false (.load none (.tmp 44)), .g 46 39 false (.call 123 [.tmp 45]), .pt 47 39 46, .m 2 47]) .ret)))))
def mq_ : LF := ⟨1, 48, oN_, [.tmp 2]⟩
theorem Bt_ : at_ Tryz.prog Tryz.f121 mq_ := ah_
theorem lv_ (x : ab_) (hx : ab_.sz x ≤ 1048576) (h : List Row) : aa_ Tryz.prog 121 [.agg (ab_.cells x)] h (.val (.bool (cx_ x))) := by
 refine ak_ mixed Tryz.func121 Bt_ rfl rfl ?_ h
 have h1 := ab_.sz_Name hx
 have h2 := aw_ (ab_.sz_Subs hx)
 by_cases k5 : x.Kind = 5
 case neg =>
  have hN : cx_ x = (bH_ x.Name && bc_ x.Subs) := by rw [cx_, if_neg k5]
  simp (disch := omega) only [mq_, oN_, ab_.cells, go_sem, Nat.reduceEqDiff, Nat.reduceAdd, ↓reduceIte]
  repeat' (first
   | exact af_ _ _
   | (refine ae_ ?_; rw [hN]; simp only [*, Bool.true_and, Bool.false_and]; done)
   | simp (disch := omega) only [k5, go_sem, Nat.reduceEqDiff, ↓reduceIte]
   | (refine aa_.call (bG_ _ h1 _) ?_)
   | (refine aa_.q (bG_ _ h1 _) ?_)
   | (refine aa_.call (bF_ _ h2 _) ?_)
   | (refine aa_.q (bF_ _ h2 _) ?_)
   | ((first | (apply aQ_; assumption) | (apply aR_; assumption) | (apply a8_; assumption) | (apply a7_; assumption)); intro hb; try simp only [hb])
   | ((first | (apply aF_; assumption) | (apply aE_; assumption) | (apply aN_; assumption) | (apply aO_; assumption)); intro hb; try simp only [hb])
   | ((first | apply ay_ | apply aB_ | apply am_ | apply ao_) <;> intro hb <;> (try simp only [hb]) <;> (first | have hp := aZ_ hb | have hp := aX_ hb | have hp := a0_ hb | have hp := aY_ hb | skip)))
 have hN : cx_ x = (bH_ x.Name && (decide (0 < (x.Subs.length : Int)) && decide ((x.Subs.length : Int) ≤ 4) && bc_ (bN_ x.Subs) && (decide (dG_ x.Subs = txt []) || bL_ (dG_ x.Subs)))) := by rw [cx_, if_pos k5]
 by_cases h0 : x.Subs.length = 0
 ·have h0' : ((0 : Int) < x.Subs.length) = False := eq_false (by omega)
  have h0'' : ((x.Subs.length : Int) < 1) = True := eq_true (by omega)
  simp (disch := omega) only [mq_, oN_, ab_.cells, k5, go_sem, Nat.reduceEqDiff, Nat.reduceAdd, ↓reduceIte]
  repeat' (first
   | exact af_ _ _
   | (refine ae_ ?_; rw [hN]; simp [h0]; done)
   | (refine ae_ ?_; rw [hN]; simp only [*, Bool.and_true, Bool.true_and, Bool.and_false, Bool.false_and, Bool.or_true, Bool.true_or, Bool.or_false, Bool.false_or, Bool.not_true, Bool.not_false, decide_true, decide_false, Bool.and_self, Bool.or_self]; done)
   | simp (disch := omega) only [h0'', go_sem, Nat.reduceEqDiff, ↓reduceIte]
   | (refine aa_.call (bG_ _ h1 _) ?_)
   | (refine aa_.q (bG_ _ h1 _) ?_)
   | ((first | (apply aQ_; assumption) | (apply aR_; assumption) | (apply a8_; assumption) | (apply a7_; assumption)); intro hb; try simp only [hb])
   | ((first | (apply aF_; assumption) | (apply aE_; assumption) | (apply aN_; assumption) | (apply aO_; assumption)); intro hb; try simp only [hb])
   | ((first | apply ay_ | apply aB_ | apply am_ | apply ao_) <;> intro hb <;> (try simp only [hb]) <;> (first | have hp := aZ_ hb | have hp := aX_ hb | have hp := a0_ hb | have hp := aY_ hb | skip)))
 ·have h0' : ((0 : Int) < x.Subs.length) = True := eq_true (by omega)
  have h0'' : ((x.Subs.length : Int) < 1) = False := eq_false (by omega)
  have hlt : x.Subs.length - 1 < x.Subs.length := by omega
  have hfr : x.Subs.take (x.Subs.length - 1) = bN_ x.Subs := rfl
  have hfl : (bN_ x.Subs).length ≤ 1048576 := by rw [bN_, List.length_take]; omega
  have hw : IntKind.i64.wrap ((x.Subs.length : Int) - 1) = ((x.Subs.length - 1 : Nat) : Int) := by rw [ap_ (n := (x.Subs.length : Int) - 1) (by omega) (by omega)]; omega
  by_cases q4 : (x.Subs.length : Int) ≤ 4
  ·have q4' : ((4 : Int) < x.Subs.length) = False := eq_false (by omega)
   simp (disch := omega) only [mq_, oN_, ab_.cells, k5, go_sem, Nat.reduceEqDiff, Nat.reduceAdd, ↓reduceIte]
   repeat' (first
    | exact af_ _ _
    | (refine ae_ ?_; rw [hN]; simp only [*, Bool.true_and, Bool.and_false, Bool.false_and, Bool.true_or, Bool.false_or, decide_true, Bool.and_self]; done)
    | simp (disch := omega) only [h0'', q4', hw, eV_, hfr, fY_, aj_, go_sem, Nat.reduceEqDiff, ↓reduceIte]
    | (refine aa_.call (bG_ _ h1 _) ?_)
    | (refine aa_.q (bG_ _ h1 _) ?_)
    | (refine aa_.call (bF_ _ hfl _) ?_)
    | (refine aa_.q (bF_ _ hfl _) ?_)
    | (refine aa_.call (dM_ _ _) ?_)
    | (refine aa_.q (dM_ _ _) ?_)
    | ((first | (apply aQ_; assumption) | (apply aR_; assumption) | (apply a8_; assumption) | (apply a7_; assumption)); intro hb; try simp only [hb])
    | ((first | (apply aF_; assumption) | (apply aE_; assumption) | (apply aN_; assumption) | (apply aO_; assumption)); intro hb; try simp only [hb])
    | ((first | apply ay_ | apply aB_ | apply am_ | apply ao_) <;> intro hb <;> (try simp only [hb]) <;> (first | have hp := aZ_ hb | have hp := aX_ hb | have hp := a0_ hb | have hp := aY_ hb | skip)))
  ·have q4' : ((4 : Int) < x.Subs.length) = True := eq_true (by omega)
   simp (disch := omega) only [mq_, oN_, ab_.cells, k5, go_sem, Nat.reduceEqDiff, Nat.reduceAdd, ↓reduceIte]
   repeat' (first
    | exact af_ _ _
    | (refine ae_ ?_; rw [hN]; simp only [*, Bool.and_false, Bool.false_and, decide_true, decide_false, Bool.and_self]; done)
    | simp (disch := omega) only [h0'', q4', go_sem, Nat.reduceEqDiff, ↓reduceIte]
    | (refine aa_.call (bG_ _ h1 _) ?_)
    | (refine aa_.q (bG_ _ h1 _) ?_)
    | ((first | (apply aQ_; assumption) | (apply aR_; assumption) | (apply a8_; assumption) | (apply a7_; assumption)); intro hb; try simp only [hb])
    | ((first | (apply aF_; assumption) | (apply aE_; assumption) | (apply aN_; assumption) | (apply aO_; assumption)); intro hb; try simp only [hb])
    | ((first | apply ay_ | apply aB_ | apply am_ | apply ao_) <;> intro hb <;> (try simp only [hb]) <;> (first | have hp := aZ_ hb | have hp := aX_ hb | have hp := a0_ hb | have hp := aY_ hb | skip)))
end Go.Proofs.YtfplhbjggecnpaaGreatDoor
