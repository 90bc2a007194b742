/-
 Contracts of functions. Conditions: as each theorem says.
-/
import Derived.Test.YthahmhkbcdpkjabGreatDoorFnHB
import Derived.Test.YthahmhkbcdpkjabGreatDoorShelfT
import Derived.Test.YthahmhkbcdpkjabGreatDoorAwC
namespace Go.Proofs.YthahmhkbcdpkjabGreatDoor
open Tryz (prog)
open Nat (reduceEqDiff reduceLeDiff)
open List
open Go.AW
set_option linter.unusedVariables false
set_option linter.unusedSimpArgs false
set_option maxRecDepth 4000
def leN : Nat → Nat → List UInt8
 | _, 0 => []
 | n, k + 1 => UInt8.ofNat n :: leN (n / 256) k
theorem ce_ : ∀ (k n : Nat), (leN n k).length = k
 | 0, n => rfl
 | k + 1, n => by simp [leN, ce_ k]
theorem j8_ (n : Nat) : IntKind.u8.wrap (n : Int) = ((UInt8.ofNat n).toNat : Int) := by
 rw [IntKind.wrap_u8, UInt8.toNat_ofNat']; omega
theorem pl_ (n : Nat) : UInt8.ofNat (n % 256) = UInt8.ofNat n := by
 apply UInt8.toNat_inj.1
 rw [UInt8.toNat_ofNat', UInt8.toNat_ofNat']; omega
theorem hV_ (q : Bool) (n : Nat) : bi_ .shr q (.val (.int .i64 (n : Int))) (.val (.int .u64 8)) = some (.val (.int .i64 ((n / 256 : Nat) : Int))) := by
 rw [jg_ _ _ _ _ _ (by decide)]
 have e : (2 : Int) ^ (min (8 : Int).toNat IntKind.i64.bits) = 256 := by decide
 rw [e, Int.fdiv_eq_ediv_of_nonneg _ (by decide), Int.natCast_ediv]; rfl
theorem ik_ (q : Bool) (n : Nat) (hn : n ≤ 9223372036854775807) : bi_ .and q (.val (.int .i64 (n : Int))) (.val (.int .i64 255)) = some (.val (.int .i64 ((n % 256 : Nat) : Int))) := by
 have h0 : bi_ .and q (.val (.int .i64 (n : Int))) (.val (.int .i64 255)) = some (.val (.int .i64 (IntKind.i64.wrap ((BitVec.ofInt 64 (n : Int) &&& BitVec.ofInt 64 255).toNat : Int)))) := rfl
 have e1 : BitVec.ofInt 64 (n : Int) = BitVec.ofNat 64 n := by
  apply BitVec.eq_of_toNat_eq
  rw [BitVec.toNat_ofInt, BitVec.toNat_ofNat]; omega
 have e2 : (BitVec.ofInt 64 (255 : Int)) = BitVec.ofNat 64 255 := by decide
 have e3 : (BitVec.ofNat 64 n &&& BitVec.ofNat 64 255).toNat = n % 256 := by
  rw [BitVec.toNat_and, BitVec.toNat_ofNat, BitVec.toNat_ofNat]
  have := Nat.and_two_pow_sub_one_eq_mod (n % 2 ^ 64) 8
  simp only [Nat.reducePow, Nat.reduceSub, Nat.reduceMod] at this ⊢
  rw [this]; omega
 rw [h0, e1, e2, e3, az_ (by omega) (by omega)]
def c82 : LC :=
 .q [.o [.s 4 (.mov (.const (.string ⟨#[]⟩)))], .o [.s 6 (.buildSlice 5 1 (.int .u8 0) 0 []), .m 5 6], .q [.o [.m 7 1, .ki 8 0], .block 0 (.loop (.q [.o [.bb 9 .lss false 8 7], .k 9 .skip (.exit 0), .block 1 (.q [.o [.m
 10 5, .m 11 0, .s 12 (.convInt .u8 (.tmp 11)), .s 13 (.buildSlice 5 1 (.int .u8 0) 1 [(0, .tmp 12)]), .ap 14 5 1 1 10 13, .m 5 14], .o [.m 15 0, .s 16 (.bin .shr false (.tmp 15) (.const (.int .u64 8))), .m 0 16]]), .o
 [.bk 17 .add false 8 1, .m 8 17]]))], .o [.m 18 5, .s 19 (.toStr (.tmp 18)), .m 4 19], .ret]
def ve_ : LF := ⟨2, 20, c82, [.tmp 4]⟩
theorem xa_ : as_ prog Tryz.f82 ve_ := al_
def c94 : LC :=
 .q [.o [.s 4 (.mov (.const (.string ⟨#[]⟩)))], .o [.s 7 (.buildSlice 5 1 (.int .u8 0) 0 []), .m 5 7], .q [.o [.ki 6 0], .block 0 (.loop (.q [.q [.o [.m 8 6, .m 9 1, .bb 10 .lss false 8 9], .k 10 .skip (.exit 0)], .block
 1 (.q [.o [.m 13 5, .m 14 0, .bk 15 .and false 14 255, .s 16 (.convInt .u8 (.tmp 15)), .s 17 (.buildSlice 5 1 (.int .u8 0) 1 [(0, .tmp 16)]), .ap 18 5 1 1 13 17, .m 5 18], .o [.m 19 0, .s 20 (.bin .shr false (.tmp 19)
 (.const (.int .u64 8))), .m 0 20]]), .o [.m 11 6, .bk 12 .add false 11 1, .m 6 12]]))], .o [.m 21 5, .s 22 (.toStr (.tmp 21)), .m 4 22], .ret]
def vH_ : LF := ⟨2, 23, c94, [.tmp 4]⟩
theorem wN_ : as_ prog Tryz.f94 vH_ := al_
theorem dI_ (n k : Nat) (hn : n ≤ 9223372036854775807) (hk : k ≤ 16) (h : List Row) : aa_ prog 82 [.val (.int .i64 n), .val (.int .i64 k)] h (.val (.string (txt (leN n k)))) := by
 refine ah_ mixed Tryz.func82 xa_ rfl rfl ?_ h
 simp (disch := omega) only [ve_, c82, go_sem, reduceEqDiff, ↓reduceIte]
 refine aJ_ (fun m t h => ∃ (i n' : Nat) (out : List UInt8) (rest : List Row), t 0 = .val (.int .i64 n') ∧ t 5 = .own 0 out.length ∧ t 7 = .val (.int .i64 k) ∧ t 8 = .val (.int .i64 i) ∧ h = ⟨5, 1, aA_ out⟩ :: rest ∧ m = k - i ∧ i ≤ k ∧ out.length = i ∧ n' ≤ n ∧ leN n k = out ++ leN n' (k - i)) k ⟨0, n, [], _, rfl, rfl, rfl, rfl, rfl, rfl, Nat.zero_le _, rfl, Nat.le_refl _, rfl⟩ ?_
 rintro J hJ m t h ⟨i, n', out, rest, t0, t5, tk, ti, rfl, rfl, hi, ho, hle, hS⟩
 have fl := cI_ out
 by_cases hlt : i < k
 ·have hltI : ((i : Int) < k) = True := eq_true (by omega)
  have ek : k - i = (k - (i + 1)) + 1 := by omega
  rw [ek, leN] at hS
  simp (disch := omega) only [t0, t5, tk, ti, hltI, fl, j8_, hV_, az_, go_sem, reduceEqDiff, reduceLeDiff, reduceCtorEq, ↓reduceIte]
  refine ⟨by omega, by omega, ?_⟩
  try simp (disch := omega) only [t0, t5, tk, ti, hltI, fl, j8_, pl_, hV_, ik_, az_, go_sem, reduceEqDiff, Nat.reduceAdd, reduceLeDiff, reduceCtorEq, Int.reduceLT, Int.reduceLE, Int.reduceNeg, Int.reduceSub, Int.reduceAdd, Int.reduceToNat, ↓reduceIte]
  exact ⟨k - (i + 1), by omega, hJ _ _ _ ⟨i + 1, n' / 256, out ++ [UInt8.ofNat n'], rest ++ [⟨5, 1, aA_ [UInt8.ofNat n']⟩], by simp [upd], by simp [upd], by simp [upd, tk], by simp [upd], by simp [aA_], rfl, by omega, by simp [ho], by omega, by rw [hS]; simp⟩⟩
 ·have hltI : ((i : Int) < k) = False := eq_false (by omega)
  rw [show k - i = 0 by omega, leN, append_nil] at hS
  simp (disch := omega) only [t5, tk, ti, hltI, fl, dd_, Option.map_some, go_sem, reduceEqDiff, ↓reduceIte]
  rw [hS]
  exact aG_ rfl
theorem fB_ (n k : Nat) (hn : n ≤ 9223372036854775807) (hk : k ≤ 16) (h : List Row) : aa_ prog 94 [.val (.int .i64 n), .val (.int .i64 k)] h (.val (.string (txt (leN n k)))) := by
 refine ah_ mixed Tryz.func94 wN_ rfl rfl ?_ h
 simp (disch := omega) only [vH_, c94, go_sem, ↓reduceIte]
 refine aJ_ (fun m t h => ∃ (i n' : Nat) (out : List UInt8) (rest : List Row), t 0 = .val (.int .i64 n') ∧ t 5 = .own 0 out.length ∧ t 1 = .val (.int .i64 k) ∧ t 6 = .val (.int .i64 i) ∧ h = ⟨5, 1, aA_ out⟩ :: rest ∧ m = k - i ∧ i ≤ k ∧ out.length = i ∧ n' ≤ n ∧ leN n k = out ++ leN n' (k - i)) k ⟨0, n, [], _, rfl, rfl, rfl, rfl, rfl, rfl, Nat.zero_le _, rfl, Nat.le_refl _, rfl⟩ ?_
 rintro J hJ m t h ⟨i, n', out, rest, t0, t5, tk, ti, rfl, rfl, hi, ho, hle, hS⟩
 have fl := cI_ out
 by_cases hlt : i < k
 ·have hltI : ((i : Int) < k) = True := eq_true (by omega)
  have ek : k - i = (k - (i + 1)) + 1 := by omega
  rw [ek, leN] at hS
  simp (disch := omega) only [t0, t5, tk, ti, hltI, fl, j8_, pl_, hV_, ik_, az_, go_sem, reduceEqDiff, reduceLeDiff, reduceCtorEq, ↓reduceIte]
  refine ⟨by omega, by omega, ?_⟩
  try simp (disch := omega) only [t0, t5, tk, ti, hltI, fl, j8_, pl_, hV_, ik_, az_, go_sem, reduceEqDiff, Nat.reduceAdd, reduceLeDiff, reduceCtorEq, Int.reduceLT, Int.reduceLE, Int.reduceNeg, Int.reduceSub, Int.reduceAdd, Int.reduceToNat, ↓reduceIte]
  exact ⟨k - (i + 1), by omega, hJ _ _ _ ⟨i + 1, n' / 256, out ++ [UInt8.ofNat n'], rest ++ [⟨5, 1, aA_ [UInt8.ofNat n']⟩], by simp [upd], by simp [upd], by simp [upd, tk], by simp [upd], by simp [aA_], rfl, by omega, by simp [ho], by omega, by rw [hS]; simp⟩⟩
 ·have hltI : ((i : Int) < k) = False := eq_false (by omega)
  rw [show k - i = 0 by omega, leN, append_nil] at hS
  simp (disch := omega) only [t5, tk, ti, hltI, fl, dd_, Option.map_some, go_sem, reduceEqDiff, ↓reduceIte]
  rw [hS]
  exact aG_ rfl
def shB (l : List UInt8) : List UInt8 := UInt8.ofNat l.length :: l
def c64 : LC :=
 .q [.o [.s 2 (.mov (.const (.string ⟨#[]⟩)))], .o [.m 3 0, .s 4 (.convInt .u8 (.tmp 3)), .s 5 (.buildSlice 5 1 (.int .u8 0) 1 [(0, .tmp 4)]), .s 6 (.toStr (.tmp 5)), .m 2 6], .ret]
def wb_ : LF := ⟨1, 7, c64, [.tmp 2]⟩
theorem xS_ : as_ prog Tryz.f64 wb_ := al_
def c83 : LC :=
 .q [.o [.s 2 (.mov (.const (.string ⟨#[]⟩)))], .o [.m 3 0, .s 4 (.lenStr (.tmp 3)), .s 5 (.call 82 [.tmp 4, .const (.int .i64 1)]), .m 6 0, .bb 7 .add false 5 6, .m 2 7], .ret]
def vA_ : LF := ⟨1, 8, c83, [.tmp 2]⟩
theorem xg_ : as_ prog Tryz.f83 vA_ := al_
def c65 : LC :=
 .q [.o [.s 2 (.mov (.const (.string ⟨#[]⟩)))], .o [.m 3 0, .s 4 (.lenStr (.tmp 3)), .c1 5 64 4, .m 6 0, .bb 7 .add false 5 6, .m 2 7], .ret]
def u9_ : LF := ⟨1, 8, c65, [.tmp 2]⟩
theorem w4_ : as_ prog Tryz.f65 u9_ := al_
theorem b0_ (n : Nat) (h : List Row) : aa_ prog 64 [.val (.int .i64 n)] h (.val (.string (txt [UInt8.ofNat n]))) := by
 refine ah_ mixed Tryz.func64 xS_ rfl rfl ?_ h
 have e : ∀ b : UInt8, [[AV.val (.int .u8 (b.toNat : Int))]] = aA_ [b] := fun b => rfl
 simp (disch := omega) only [wb_, c64, j8_, e, dd_, cI_, Option.map_some, go_sem, reduceCtorEq, ↓reduceIte]
 refine ⟨by simp [aA_], ?_⟩
 exact aG_ rfl
theorem f6_ (l : List UInt8) (hl : l.length ≤ 1048576) (h : List Row) : aa_ prog 83 [.val (.string (txt l))] h (.val (.string (txt (shB l)))) := by
 refine ah_ mixed Tryz.func83 xg_ rfl rfl ?_ h
 simp (disch := omega) only [vA_, c83, go_sem, reduceCtorEq, ↓reduceIte]
 refine aa_.call (dI_ l.length 1 (by omega) (by omega) _) ?_
 have ha : (leN l.length 1).length + l.length ≤ 9223372036854775807 := by rw [ce_]; omega
 simp (disch := omega) only [bv_ _ _ _ ha, go_sem, reduceEqDiff, reduceCtorEq, ↓reduceIte]
 exact aG_ rfl
theorem fg_ (l : List UInt8) (hl : l.length ≤ 1048576) (h : List Row) : aa_ prog 65 [.val (.string (txt l))] h (.val (.string (txt (shB l)))) := by
 refine ah_ mixed Tryz.func65 w4_ rfl rfl ?_ h
 simp (disch := omega) only [u9_, c65, go_sem, reduceCtorEq, ↓reduceIte]
 refine aa_.call (b0_ l.length _) ?_
 have ha : [UInt8.ofNat l.length].length + l.length ≤ 9223372036854775807 := by rw [length_singleton]; omega
 simp (disch := omega) only [bv_ _ _ _ ha, go_sem, reduceEqDiff, reduceCtorEq, ↓reduceIte]
 exact aG_ rfl
def gA_ (n : ByteArray) (s : List ByteArray) : List UInt8 := if dN_ n s = true then n.data.toList ++ [1] ++ ho_ s else []
theorem jO_ (s : List ByteArray) : (ho_ s).length ≤ 228 := by
 unfold ho_
 split
 ·rename_i h
  obtain ⟨h4, hm⟩ := gt_ h
  have := id_ s (fun x hx => (hm x hx).2)
  omega
 ·simp
theorem gj_ {n : ByteArray} {s : List ByteArray} (h : dN_ n s = true) : n.size ≤ 8 := by
 simp only [dN_, Bool.and_eq_true, cJ_, decide_eq_true_eq] at h
 omega
theorem j5_ (n : ByteArray) (s : List ByteArray) : (gA_ n s).length ≤ 237 := by
 unfold gA_
 split
 ·rename_i h
  have h1 := gj_ h
  have h2 := jO_ s
  have h3 : n.data.toList.length = n.size := by rw [Array.length_toList]; rfl
  simp only [la_, length_singleton]; omega
 ·simp
def vL_ : LC :=
 .q [.o [.s 4 (.mov (.const (.string ⟨#[]⟩)))], .q [.o [.m 5 0, .m 6 1, .c2 7 75 5 6, .nt 8 7], .k 8 (.q [.o [.s 4 (.mov (.const (.string ⟨#[]⟩)))], .ret]) .skip], .o [.m 9 0, .s 10 (.bin .add false (.tmp 9) (.const
 (.string ⟨#[1]⟩))), .m 11 1, .c1 12 121 11, .bb 13 .add false 10 12, .m 4 13], .ret]
def sG_ : LF := ⟨2, 14, vL_, [.tmp 4]⟩
theorem v0_ : as_ prog Tryz.f106 sG_ := al_
def c66 : LC :=
 .q [.o [.s 4 (.mov (.const (.string ⟨#[]⟩)))], .q [.o [.m 5 0, .m 6 1, .c2 7 36 5 6, .nt 8 7], .k 8 (.q [.o [.s 4 (.mov (.const (.string ⟨#[]⟩)))], .ret]) .skip], .o [.m 9 0, .s 10 (.bin .add false (.tmp 9) (.const
 (.string ⟨#[1]⟩))), .m 11 1, .c1 12 95 11, .bb 13 .add false 10 12, .m 4 13], .ret]
def t4_ : LF := ⟨2, 14, c66, [.tmp 4]⟩
theorem x1_ : as_ prog Tryz.f66 t4_ := al_
theorem me_ (n : ByteArray) (s : List ByteArray) (hn : n.size ≤ 1048576) (hs : s.length ≤ 1048576) (h : List Row) : aa_ prog 106 [.val (.string n), .list 0 1 (s.map ax_)] h (.val (.string (txt (gA_ n s)))) := by
 refine ah_ mixed Tryz.func106 v0_ rfl rfl ?_ h
 simp (disch := omega) only [sG_, vL_, go_sem, reduceEqDiff, reduceCtorEq, ↓reduceIte]
 refine aa_.call (el_ n s hn hs _) ?_
 by_cases q : dN_ n s = true
 case neg =>
  have q' : dN_ n s = false := by simpa using q
  simp (disch := omega) only [q', go_sem, ↓reduceIte]
  exact aG_ (by rw [gA_, if_neg q])
 have h8 := gj_ q
 obtain ⟨l, rfl⟩ : ∃ l, n = txt l := ⟨_, iF_ n⟩
 rw [bL_] at h8
 have h2 := jO_ s
 have ha : l.length + [(1 : UInt8)].length ≤ 9223372036854775807 := by rw [length_singleton]; omega
 have hb : (l ++ [1]).length + (ho_ s).length ≤ 9223372036854775807 := by rw [la_, length_singleton]; omega
 simp (disch := omega) only [q, bv_ _ _ _ ha, go_sem, reduceEqDiff, reduceCtorEq, ↓reduceIte]
 refine aa_.call (kI_ s hs _) ?_
 simp (disch := omega) only [bv_ _ _ _ hb, go_sem, reduceEqDiff, ↓reduceIte]
 exact aG_ (by rw [gA_, if_pos q, bu_]; try simp)
theorem ma_ (n : ByteArray) (s : List ByteArray) (hn : n.size ≤ 1048576) (hs : s.length ≤ 1048576) (h : List Row) : aa_ prog 66 [.val (.string n), .list 0 1 (s.map ax_)] h (.val (.string (txt (gA_ n s)))) := by
 refine ah_ mixed Tryz.func66 x1_ rfl rfl ?_ h
 simp (disch := omega) only [t4_, c66, go_sem, reduceEqDiff, reduceCtorEq, ↓reduceIte]
 refine aa_.call (cX_ n s hn hs _) ?_
 by_cases q : dN_ n s = true
 case neg =>
  have q' : dN_ n s = false := by simpa using q
  simp (disch := omega) only [q', go_sem, ↓reduceIte]
  exact aG_ (by rw [gA_, if_neg q])
 have h8 := gj_ q
 obtain ⟨l, rfl⟩ : ∃ l, n = txt l := ⟨_, iF_ n⟩
 rw [bL_] at h8
 have h2 := jO_ s
 have ha : l.length + [(1 : UInt8)].length ≤ 9223372036854775807 := by rw [length_singleton]; omega
 have hb : (l ++ [1]).length + (ho_ s).length ≤ 9223372036854775807 := by rw [la_, length_singleton]; omega
 simp (disch := omega) only [q, bv_ _ _ _ ha, go_sem, reduceEqDiff, reduceCtorEq, ↓reduceIte]
 refine aa_.call (ku_ s hs _) ?_
 simp (disch := omega) only [bv_ _ _ _ hb, go_sem, reduceEqDiff, ↓reduceIte]
 exact aG_ (by rw [gA_, if_pos q, bu_]; try simp)
def fv_ (n : Nat) : List UInt8 := List.replicate n 0
theorem i5_ (n : Nat) : (fv_ n).length = n := length_replicate
theorem nU_ : ∀ n : Nat, Lib.repeatL [0] n = fv_ n := by
 intro n
 induction n with
 | zero => rfl
 | succ n ih =>
  show [0] ++ Lib.repeatL [0] n = _
  rw [ih]; rfl
theorem iD_ (n : Nat) (hn : n ≤ 2000) (h : List Row) : aa_ prog 119 [.val (.string (txt [0])), .val (.int .i64 n)] h (.val (.string (txt (fv_ n)))) := by
 rw [← nU_]
 refine fu_ (vals := [.string (txt [0]), .int .i64 n]) (fun w _ => ?_) h
 have := Tryz.strings_Repeat (txt [0]) n w (by omega) (by rw [bL_, length_singleton]; omega)
 rw [bu_] at this
 exact this
def vs_ : LC :=
 .q [.o [.s 2 (.mov (.const (.string ⟨#[]⟩)))], .o [.m 3 0, .s 4 (.mm true (.const (.int .i64 0)) (.tmp 3)), .s 5 (.call 119 [.const (.string ⟨#[0]⟩), .tmp 4]), .m 2 5], .ret]
def sy_ : LF := ⟨1, 6, vs_, [.tmp 2]⟩
theorem u3_ : as_ prog Tryz.f104 sy_ := al_
def c84 : LC :=
 .q [.o [.s 6 (.mov (.const (.string ⟨#[]⟩)))], .o [.m 8 2, .s 9 (.mm true (.const (.int .i64 0)) (.tmp 8)), .m 10 0, .s 11 (.lenStr (.tmp 10)), .s 12 (.bin .mul false (.const (.int .i64 2)) (.tmp 11)), .m 13 1, .s 14
 (.lenStr (.tmp 13)), .bb 15 .add false 12 14, .bb 16 .sub false 9 15, .m 7 16], .q [.o [.m 17 0, .s 18 (.lenStr (.tmp 17)), .s 19 (.call 45 [.tmp 18, .const (.int .i64 1), .const (.int .i64 16)]), .nt 20 19, .m 21 20,
 .gm 22 21 false 2, .g 23 21 false (.bin .gtr false (.tmp 22) (.const (.int .i64 2000))), .pt 24 21 23, .m 25 24, .gm 26 25 false 7, .g 27 25 false (.bin .lss false (.tmp 26) (.const (.int .i64 0))), .pt 28 25 27], .k 28
 (.q [.o [.s 6 (.mov (.const (.string ⟨#[]⟩)))], .ret]) .skip], .o [.m 29 0, .m 30 1, .bb 31 .add false 29 30, .m 32 7, .c1 33 104 32, .bb 34 .add false 31 33, .m 35 0, .bb 36 .add false 34 35, .m 6 36], .ret]
def wa_ : LF := ⟨3, 37, c84, [.tmp 6]⟩
theorem xn_ : as_ prog Tryz.f84 wa_ := al_
def c93 : LC :=
 .q [.o [.s 6 (.mov (.const (.string ⟨#[]⟩)))], .o [.m 8 0, .s 9 (.lenStr (.tmp 8)), .m 7 9], .q [.o [.m 10 7, .bk 11 .lss false 10 1, .m 12 11, .gm 13 12 false 7, .g 14 12 false (.bin .gtr false (.tmp 13) (.const (.int
 .i64 16))), .pt 15 12 14, .m 16 15, .gm 17 16 false 2, .g 18 16 false (.bin .gtr false (.tmp 17) (.const (.int .i64 2000))), .pt 19 16 18, .m 20 19, .gm 21 20 false 7, .g 22 20 false (.bin .mul false (.const (.int .i64
 2)) (.tmp 21)), .gm 23 20 false 1, .g 24 20 false (.lenStr (.tmp 23)), .g 25 20 false (.bin .add false (.tmp 22) (.tmp 24)), .gm 26 20 false 2, .g 27 20 false (.bin .gtr false (.tmp 25) (.tmp 26)), .pt 28 20 27], .k 28
 (.q [.o [.s 6 (.mov (.const (.string ⟨#[]⟩)))], .ret]) .skip], .o [.m 29 0, .m 30 1, .bb 31 .add false 29 30, .m 32 2, .m 33 7, .s 34 (.bin .mul false (.const (.int .i64 2)) (.tmp 33)), .bb 35 .sub false 32 34, .m 36 1,
 .s 37 (.lenStr (.tmp 36)), .bb 38 .sub false 35 37, .s 39 (.mkSlice 5 1 1 (.int .u8 0) (.tmp 38) (.tmp 38)), .s 40 (.toStr (.tmp 39)), .bb 41 .add false 31 40, .m 42 0, .bb 43 .add false 41 42, .m 6 43], .ret]
def uS_ : LF := ⟨3, 44, c93, [.tmp 6]⟩
theorem xk_ : as_ prog Tryz.f93 uS_ := al_
theorem mk_ (n : Nat) (hn : n ≤ 2000) (h : List Row) : aa_ prog 104 [.val (.int .i64 n)] h (.val (.string (txt (fv_ n)))) := by
 refine ah_ mixed Tryz.func104 u3_ rfl rfl ?_ h
 have e : (if 0 < n then (n : Int) else 0) = n := by split <;> omega
 simp (disch := omega) only [sy_, vs_, go_sem, reduceCtorEq, ↓reduceIte]
 simp only [e]
 refine aa_.call (iD_ n hn _) ?_
 simp (disch := omega) only [go_sem, ↓reduceIte]
 exact aG_ rfl
def fV_ (st b : List UInt8) : List UInt8 := st ++ b ++ fv_ (112 - b.length) ++ st
theorem g0_ (st b : List UInt8) (hst : st.length = 8) (hb : b.length ≤ 112) (h : List Row) : aa_ prog 84 [.val (.string (txt st)), .val (.string (txt b)), .val (.int .i64 128)] h (.val (.string (txt (fV_ st b)))) := by
 refine ah_ mixed Tryz.func84 xn_ rfl rfl ?_ h
 have hst' : (st.length : Int) = 8 := by omega
 simp (disch := omega) only [wa_, c84, hst', go_sem, reduceEqDiff, reduceCtorEq, Int.reduceLT, ↓reduceIte]
 refine aa_.call (bC_ _ _ _ _) ?_
 have e1 : br_ 8 1 16 = true := by decide
 have e2 : ((128 : Int) - (2 * 8 + b.length) < 0) = False := eq_false (by omega)
 have e3 : (128 : Int) - (2 * 8 + b.length) = ((112 - b.length : Nat) : Int) := by omega
 have ha : st.length + b.length ≤ 9223372036854775807 := by omega
 have hz := i5_ (112 - b.length)
 have hb2 : (st ++ b).length + (fv_ (112 - b.length)).length ≤ 9223372036854775807 := by rw [la_, hz]; omega
 have hc2 : (st ++ (b ++ fv_ (112 - b.length))).length + st.length ≤ 9223372036854775807 := by rw [la_, la_, hz]; omega
 simp (disch := omega) only [e1, e2, bv_ _ _ _ ha, go_sem, reduceEqDiff, reduceCtorEq, Int.reduceLT, ↓reduceIte]
 rw [e3]
 refine aa_.call (mk_ _ (by omega) _) ?_
 simp (disch := omega) only [bv_ _ _ _ hb2, bv_ _ _ _ hc2, go_sem, reduceEqDiff, reduceCtorEq, ↓reduceIte]
 exact aG_ (by simp [fV_])
theorem hg_ (st b : List UInt8) (hst : st.length = 8) (hb : b.length ≤ 112) (h : List Row) : aa_ prog 93 [.val (.string (txt st)), .val (.string (txt b)), .val (.int .i64 128)] h (.val (.string (txt (fV_ st b)))) := by
 refine ah_ mixed Tryz.func93 xk_ rfl rfl ?_ h
 have hst' : (st.length : Int) = 8 := by omega
 have e1 : decide ((128 : Int) < 2 * 8 + b.length) = false := by rw [decide_eq_false_iff_not]; omega
 have e3 : (128 : Int) - 2 * 8 - b.length = ((112 - b.length : Nat) : Int) := by omega
 have ha : st.length + b.length ≤ 9223372036854775807 := by omega
 have hz := i5_ (112 - b.length)
 have hb2 : (st ++ b).length + (fv_ (112 - b.length)).length ≤ 9223372036854775807 := by rw [la_, hz]; omega
 have hc2 : (st ++ (b ++ fv_ (112 - b.length))).length + st.length ≤ 9223372036854775807 := by rw [la_, la_, hz]; omega
 simp (disch := omega) only [uS_, c93, hst', e1, bv_ _ _ _ ha, go_sem, reduceEqDiff, reduceCtorEq, Int.reduceLT, ↓reduceIte]
 refine ⟨by omega, by omega, by omega, ?_⟩
 have eR : ∀ k : Nat, List.replicate k [AV.val (.int .u8 0)] = aA_ (fv_ k) := fun k => by simp [aA_, fv_]
 simp (disch := omega) only [e3, Int.toNat_natCast, eR, hz, ↓reduceIte, dd_, Option.map_some, bv_ _ _ _ hb2, bv_ _ _ _ hc2, go_sem, ↓reduceIte]
 refine aG_ ?_
 rw [fV_]; simp only [append_assoc]
theorem fX_ (xs : List ByteArray) (p : ByteArray → Bool) (g : Nat) (caps : List AV) (hcf : caps.all AV.flat = true) (hx : xs.length ≤ 1048576) (hc : cc_ prog g = true) (hp : ∀ x ∈ xs, ∀ h, aa_ prog g (.val (.string x) :: caps) h (.val (.bool (p x)))) (h : List Row) :
 aa_ prog 96 [.list 0 1 (xs.map ax_), .fn g [] caps] h (.val (.int .i64 (cl_ p xs 0))) := by
 refine ah_ mixed Tryz.func96 s6_ rfl (by simp only [all_cons, all_nil, gm_, ib_ _ _ hcf]; rfl) ?_ h
 simp (disch := omega) only [so_, c96, go_sem, reduceCtorEq, Int.reduceNeg, ↓reduceIte]
 refine aJ_ (fun n t h => ∃ k : Nat, t 0 = .list 0 1 (xs.map ax_) ∧ t 1 = .fn g [] caps ∧ t 6 = .list 0 1 (xs.map ax_) ∧ t 7 = .val (.int .i64 xs.length) ∧ t 8 = .val (.int .i64 k) ∧ n = xs.length - k ∧ k ≤ xs.length ∧ (cl_ p xs 0 = cl_ p (xs.drop k) k)) (xs.length) ?_ ?_
 ·exact ⟨0, rfl, rfl, rfl, rfl, rfl, rfl, Nat.zero_le _, rfl⟩
 ·rintro J hJ n t h ⟨k, t0, t1, t6, t7, k8, rfl, hk, hS⟩
  by_cases hlt : k < xs.length
  ·skip
   rw [gW_ p xs k hlt] at hS
   simp (disch := omega) only [t0, t1, t7, k8, hlt, hc, ax_, go_sem, reduceEqDiff, reduceCtorEq, Int.reduceNeg, ↓reduceIte]
   repeat' (first
    | exact ad_ _ _
    | exact ⟨xs.length - (k + 1), by omega, hJ _ _ _ ⟨k + 1, by simp [upd, t0], by simp [upd, t1], by simp [upd, t6], by simp [upd, t7], by simp [upd], rfl, by omega, by rw [hS]; simp [*]⟩⟩
    | (refine au_ ?_; rw [hS]; simp [*]; done)
    | (refine au_ ?_; rw [hS, dX_ _ _ _ (by omega)])
    | simp (disch := omega) only [k8, go_sem, reduceEqDiff, Int.reduceNeg, ↓reduceIte]
    | (refine aa_.call (hp xs[k] (getElem_mem hlt) _) ?_)
    | (refine aa_.q (hp xs[k] (getElem_mem hlt) _) ?_)
    | ((first | (apply aF_; assumption) | (apply aE_; assumption) | (apply aP_; assumption) | (apply aO_; assumption)); intro hb; try simp only [hb])
    | ((first | apply an_ | apply ap_) <;> intro hb <;> (try simp only [hb]) <;> (first | have hp := a2_ hb | have hp := a4_ hb | have hp := a5_ hb | have hp := a3_ hb | skip)))
  ·skip
   simp (disch := omega) only [t7, k8, hlt, go_sem, Int.reduceNeg, ↓reduceIte]
   repeat' (first
    | exact ad_ _ _
    | (refine au_ ?_; rw [hS]; simp [*]; done)
    | (refine au_ ?_; rw [hS, dX_ _ _ _ (by omega)])
    | simp (disch := omega) only [t0, t1, t6, t7, k8, go_sem, reduceEqDiff, Nat.reduceAdd, reduceLeDiff, reduceCtorEq, Int.reduceLT, Int.reduceLE, Int.reduceNeg, Int.reduceSub, Int.reduceAdd, Int.reduceToNat, ↓reduceIte]
    | (refine aa_.call (hp xs[k] (getElem_mem hlt) _) ?_)
    | (refine aa_.q (hp xs[k] (getElem_mem hlt) _) ?_)
    | ((first | (apply aF_; assumption) | (apply aE_; assumption) | (apply aP_; assumption) | (apply aO_; assumption)); intro hb; try simp only [hb])
    | ((first | apply an_ | apply ap_) <;> intro hb <;> (try simp only [hb]) <;> (first | have hp := a2_ hb | have hp := a4_ hb | have hp := a5_ hb | have hp := a3_ hb | skip)))
def c97 : LC :=
 .q [.o [.ki 4 0], .q [.o [.m 6 0, .ll 7 6, .ki 8 0], .block 0 (.loop (.q [.o [.bb 9 .lss false 8 7], .k 9 .skip (.exit 0), .block 1 (.q [.o [.m 10 8, .m 5 10], .o [.m 11 1, .m 12 0, .m 13 5, .ia 14 2 12 13, .ld 15 2 14,
 .s 16 (.callv (.tmp 11) [.tmp 15])], .k 16 (.q [.o [.m 17 5, .m 4 17], .ret]) .skip]), .o [.bk 18 .add false 8 1, .m 8 18]]))], .o [.s 4 (.mov (.const (.int .i64 (-1))))], .ret]
def vp_ : LF := ⟨2, 19, c97, [.tmp 4]⟩
theorem wJ_ : as_ prog Tryz.f97 vp_ := al_
theorem fF_ (xs : List ao_) (p : ao_ → Bool) (g : Nat) (caps : List AV) (hcf : caps.all AV.flat = true) (hx : xs.length ≤ 1048576) (hc : cc_ prog g = true) (hp : ∀ x ∈ xs, ∀ h, aa_ prog g (.agg (ao_.cells x) :: caps) h (.val (.bool (p x)))) (h : List Row) :
 aa_ prog 97 [.list 0 2 (xs.map ao_.cells), .fn g [] caps] h (.val (.int .i64 (cl_ p xs 0))) := by
 refine ah_ mixed Tryz.func97 wJ_ rfl (by simp only [all_cons, all_nil, gm_, ib_ _ _ hcf]; rfl) ?_ h
 simp (disch := omega) only [vp_, c97, go_sem, reduceCtorEq, Int.reduceNeg, ↓reduceIte]
 refine aJ_ (fun n t h => ∃ k : Nat, t 0 = .list 0 2 (xs.map ao_.cells) ∧ t 1 = .fn g [] caps ∧ t 6 = .list 0 2 (xs.map ao_.cells) ∧ t 7 = .val (.int .i64 xs.length) ∧ t 8 = .val (.int .i64 k) ∧ n = xs.length - k ∧ k ≤ xs.length ∧ (cl_ p xs 0 = cl_ p (xs.drop k) k)) (xs.length) ?_ ?_
 ·exact ⟨0, rfl, rfl, rfl, rfl, rfl, rfl, Nat.zero_le _, rfl⟩
 ·rintro J hJ n t h ⟨k, t0, t1, t6, t7, k8, rfl, hk, hS⟩
  by_cases hlt : k < xs.length
  ·skip
   rw [gW_ p xs k hlt] at hS
   simp (disch := omega) only [t0, t1, t7, k8, hlt, hc, ao_.cells, go_sem, reduceEqDiff, Nat.reduceAdd, reduceCtorEq, Int.reduceNeg, ↓reduceIte]
   repeat' (first
    | exact ad_ _ _
    | exact ⟨xs.length - (k + 1), by omega, hJ _ _ _ ⟨k + 1, by simp [upd, t0], by simp [upd, t1], by simp [upd, t6], by simp [upd, t7], by simp [upd], rfl, by omega, by rw [hS]; simp [*]⟩⟩
    | (refine au_ ?_; rw [hS]; simp [*]; done)
    | (refine au_ ?_; rw [hS, dX_ _ _ _ (by omega)])
    | simp (disch := omega) only [k8, go_sem, reduceEqDiff, Int.reduceNeg, ↓reduceIte]
    | (refine aa_.call (hp xs[k] (getElem_mem hlt) _) ?_)
    | (refine aa_.q (hp xs[k] (getElem_mem hlt) _) ?_)
    | ((first | (apply aF_; assumption) | (apply aE_; assumption) | (apply aP_; assumption) | (apply aO_; assumption)); intro hb; try simp only [hb])
    | ((first | apply an_ | apply ap_) <;> intro hb <;> (try simp only [hb]) <;> (first | have hp := a2_ hb | have hp := a4_ hb | have hp := a5_ hb | have hp := a3_ hb | skip)))
  ·skip
   simp (disch := omega) only [t7, k8, hlt, go_sem, Int.reduceNeg, ↓reduceIte]
   repeat' (first
    | exact ad_ _ _
    | (refine au_ ?_; rw [hS]; simp [*]; done)
    | (refine au_ ?_; rw [hS, dX_ _ _ _ (by omega)])
    | simp (disch := omega) only [t0, t1, t6, t7, k8, go_sem, reduceEqDiff, Nat.reduceAdd, reduceLeDiff, reduceCtorEq, Int.reduceLT, Int.reduceLE, Int.reduceNeg, Int.reduceSub, Int.reduceAdd, Int.reduceToNat, ↓reduceIte]
    | (refine aa_.call (hp xs[k] (getElem_mem hlt) _) ?_)
    | (refine aa_.q (hp xs[k] (getElem_mem hlt) _) ?_)
    | ((first | (apply aF_; assumption) | (apply aE_; assumption) | (apply aP_; assumption) | (apply aO_; assumption)); intro hb; try simp only [hb])
    | ((first | apply an_ | apply ap_) <;> intro hb <;> (try simp only [hb]) <;> (first | have hp := a2_ hb | have hp := a4_ hb | have hp := a5_ hb | have hp := a3_ hb | skip)))
theorem fq_ (xs : List ByteArray) (p : ByteArray → Bool) (g : Nat) (caps : List AV) (hcf : caps.all AV.flat = true) (hx : xs.length ≤ 1048576) (hc : cc_ prog g = true) (hp : ∀ x ∈ xs, ∀ h, aa_ prog g (.val (.string x) :: caps) h (.val (.bool (p x)))) (h : List Row) :
 aa_ prog 70 [.list 0 1 (xs.map ax_), .fn g [] caps] h (.val (.bool (xs.any p))) := by
 refine ah_ mixed Tryz.func70 sQ_ rfl (by simp only [all_cons, all_nil, gm_, ib_ _ _ hcf]; rfl) ?_ h
 simp (disch := omega) only [rz_, c70, go_sem, reduceEqDiff, reduceCtorEq, ↓reduceIte]
 refine aa_.call (fX_ xs p g caps hcf hx hc hp _) ?_
 simp (disch := omega) only [go_sem, ↓reduceIte]
 exact ag_ (hx_ p xs)
def c72 : LC :=
 .q [.o [.f 4], .o [.m 5 0, .m 6 1, .c2 7 97 5 6, .bk 8 .geq false 7 0, .m 4 8], .ret]
def uP_ : LF := ⟨2, 9, c72, [.tmp 4]⟩
theorem w5_ : as_ prog Tryz.f72 uP_ := al_
theorem fd_ (xs : List ao_) (p : ao_ → Bool) (g : Nat) (caps : List AV) (hcf : caps.all AV.flat = true) (hx : xs.length ≤ 1048576) (hc : cc_ prog g = true) (hp : ∀ x ∈ xs, ∀ h, aa_ prog g (.agg (ao_.cells x) :: caps) h (.val (.bool (p x)))) (h : List Row) :
 aa_ prog 72 [.list 0 2 (xs.map ao_.cells), .fn g [] caps] h (.val (.bool (xs.any p))) := by
 refine ah_ mixed Tryz.func72 w5_ rfl (by simp only [all_cons, all_nil, gm_, ib_ _ _ hcf]; rfl) ?_ h
 simp (disch := omega) only [uP_, c72, go_sem, reduceEqDiff, reduceCtorEq, ↓reduceIte]
 refine aa_.call (fF_ xs p g caps hcf hx hc hp _) ?_
 simp (disch := omega) only [go_sem, ↓reduceIte]
 exact ag_ (hx_ p xs)
def c46 : LC :=
 .q [.o [.ki 2 0], .o [.m 3 0, .ll 4 3, .m 2 4], .ret]
def v7_ : LF := ⟨1, 5, c46, [.tmp 2]⟩
theorem wD_ : as_ prog Tryz.f46 v7_ := al_
theorem bc_ (xs : List ByteArray)  (h : List Row) : aa_ prog 46 [.list 0 1 (xs.map ax_)] h (.val (.int .i64 xs.length)) := by
 refine ah_ mixed Tryz.func46 wD_ rfl rfl ?_ h
 simp (disch := omega) only [v7_, c46, go_sem, reduceCtorEq, ↓reduceIte]
 repeat' (first
  | exact ad_ _ _
  | simp (disch := omega) only [go_sem, reduceEqDiff, Nat.reduceAdd, reduceLeDiff, reduceCtorEq, Int.reduceLT, Int.reduceLE, Int.reduceNeg, Int.reduceSub, Int.reduceAdd, Int.reduceToNat, ↓reduceIte]
  | ((first | (apply aF_; assumption) | (apply aE_; assumption) | (apply aP_; assumption) | (apply aO_; assumption)); intro hb; try simp only [hb])
  | ((first | apply an_ | apply ap_) <;> intro hb <;> (try simp only [hb]) <;> (first | have hp := a2_ hb | have hp := a4_ hb | have hp := a5_ hb | have hp := a3_ hb | skip)))
theorem wq_ (a b : Int) : (a == b) = decide (a = b) := rfl
def cm_ (d : aq_) (a : Int) : Bool := br_ a 0 ((d.Sectors.length : Int) - 1)
def d5_ (d : aq_) (s : ByteArray) : Bool := !decide ((s.size : Int) = d.Wide)
def b7_ (d : aq_) (p : ao_) : Bool := !cm_ d p.At || !((p.Bytes.size : Int) == d.Wide)
def b6_ (d : aq_) : Bool := br_ d.Wide 1 2000 && br_ d.Sectors.length 1 400 && !decide (400 < (d.Puts.length : Int)) && !d.Sectors.any (d5_ d) && !d.Puts.any (b7_ d)
def c74 : LC :=
 .q [.o [.bx 2 33 0, .f 4], .o [.m 5 1, .fa 6 1 2, .ln 7 6, .c1 8 46 7, .bk 9 .sub false 8 1, .s 10 (.call 45 [.tmp 5, .const (.int .i64 0), .tmp 9]), .m 4 10], .ret]
def vj_ : LF := ⟨2, 11, c74, [.tmp 4]⟩
theorem xm_ : as_ prog Tryz.f74 vj_ := al_
theorem gS_ (d : aq_) (a : Int) (hd : d.Sectors.length ≤ 1048576) (h : List Row) : aa_ prog 74 [.agg (aq_.cells d), .val (.int .i64 a)] h (.val (.bool (cm_ d a))) := by
 refine ah_ mixed Tryz.func74 xm_ rfl rfl ?_ h
 simp (disch := omega) only [vj_, c74, aq_.cells, go_sem, reduceEqDiff, Nat.reduceAdd, ↓reduceIte]
 repeat' (first
  | exact ad_ _ _
  | (refine ag_ ?_; first | rfl | (simp only [cm_, *, Bool.and_true, Bool.true_and, Bool.and_false, Bool.false_and, Bool.or_true, Bool.true_or, Bool.or_false, Bool.false_or, Bool.not_true, Bool.not_false, decide_true, decide_false, Bool.and_self, Bool.or_self]; done) | (simp [cm_, *]; done))
  | simp (disch := omega) only [go_sem, reduceEqDiff, ↓reduceIte]
  | (refine aa_.call (bc_ _ _) ?_)
  | (refine aa_.q (bc_ _ _) ?_)
  | (refine aa_.call (bC_ _ _ _ _) ?_)
  | (refine aa_.q (bC_ _ _ _ _) ?_)
  | ((first | (apply aF_; assumption) | (apply aE_; assumption) | (apply aP_; assumption) | (apply aO_; assumption)); intro hb; try simp only [hb])
  | ((first | apply an_ | apply ap_) <;> intro hb <;> (try simp only [hb]) <;> (first | have hp := a2_ hb | have hp := a4_ hb | have hp := a5_ hb | have hp := a3_ hb | skip)))
def c68 : LC :=
 .q [.o [.bx 2 33 0, .f 4], .o [.m 5 1, .fa 6 1 2, .ln 7 6, .ll 8 7, .bk 9 .sub false 8 1, .s 10 (.call 35 [.tmp 5, .const (.int .i64 0), .tmp 9]), .m 4 10], .ret]
def t3_ : LF := ⟨2, 11, c68, [.tmp 4]⟩
theorem wU_ : as_ prog Tryz.f68 t3_ := al_
theorem hI_ (d : aq_) (a : Int) (hd : d.Sectors.length ≤ 1048576) (h : List Row) : aa_ prog 68 [.agg (aq_.cells d), .val (.int .i64 a)] h (.val (.bool (cm_ d a))) := by
 refine ah_ mixed Tryz.func68 wU_ rfl rfl ?_ h
 simp (disch := omega) only [t3_, c68, aq_.cells, go_sem, reduceEqDiff, Nat.reduceAdd, ↓reduceIte]
 repeat' (first
  | exact ad_ _ _
  | (refine ag_ ?_; first | rfl | (simp only [cm_, *, Bool.and_true, Bool.true_and, Bool.and_false, Bool.false_and, Bool.or_true, Bool.true_or, Bool.or_false, Bool.false_or, Bool.not_true, Bool.not_false, decide_true, decide_false, Bool.and_self, Bool.or_self]; done) | (simp [cm_, *]; done))
  | simp (disch := omega) only [go_sem, ↓reduceIte]
  | (refine aa_.call (bj_ _ _ _ _) ?_)
  | (refine aa_.q (bj_ _ _ _ _) ?_)
  | ((first | (apply aF_; assumption) | (apply aE_; assumption) | (apply aP_; assumption) | (apply aO_; assumption)); intro hb; try simp only [hb])
  | ((first | apply an_ | apply ap_) <;> intro hb <;> (try simp only [hb]) <;> (first | have hp := a2_ hb | have hp := a4_ hb | have hp := a5_ hb | have hp := a3_ hb | skip)))
def c71 : LC :=
 .q [.o [.f 3], .o [.m 4 0, .s 5 (.lenStr (.tmp 4)), .fa 6 0 1, .ln 7 6, .bb 8 .neq false 5 7, .m 3 8], .ret]
def uG_ : LF := ⟨2, 9, c71, [.tmp 3]⟩
theorem xW_ : as_ prog Tryz.f71 uG_ := al_
theorem jl_ (s : ByteArray) (d : aq_)  (h : List Row) : aa_ prog 71 [.val (.string s), .iptr (aq_.cells d)] h (.val (.bool (d5_ d s))) := by
 refine ah_ mixed Tryz.func71 xW_ rfl rfl ?_ h
 simp (disch := omega) only [uG_, c71, aq_.cells, go_sem, reduceEqDiff, Nat.reduceAdd, reduceCtorEq, ↓reduceIte]
 repeat' (first
  | exact ad_ _ _
  | (refine ag_ ?_; first | rfl | (simp only [d5_, *, Bool.and_true, Bool.true_and, Bool.and_false, Bool.false_and, Bool.or_true, Bool.true_or, Bool.or_false, Bool.false_or, Bool.not_true, Bool.not_false, decide_true, decide_false, Bool.and_self, Bool.or_self]; done) | (simp [d5_, *]; done))
  | simp (disch := omega) only [go_sem, reduceEqDiff, Nat.reduceAdd, reduceLeDiff, reduceCtorEq, Int.reduceLT, Int.reduceLE, Int.reduceNeg, Int.reduceSub, Int.reduceAdd, Int.reduceToNat, ↓reduceIte]
  | ((first | (apply bf_; assumption) | (apply bh_; assumption) | (apply bs_; assumption) | (apply bt_; assumption)); intro hb; try simp only [hb])
  | ((first | (apply aF_; assumption) | (apply aE_; assumption) | (apply aP_; assumption) | (apply aO_; assumption)); intro hb; try simp only [hb])
  | ((first | apply aH_ | apply aM_ | apply an_ | apply ap_) <;> intro hb <;> (try simp only [hb]) <;> (first | have hp := a2_ hb | have hp := a4_ hb | have hp := a5_ hb | have hp := a3_ hb | skip)))
def c73 : LC :=
 .q [.o [.bx 2 87 0, .f 3], .o [.ld 4 3 1, .fa 5 0 2, .ln 6 5, .c2 7 74 4 6, .nt 8 7, .m 9 8, .gf 10 9 false 1 2, .gn 11 9 false 10, .g 12 9 false (.lenStr (.tmp 11)), .gf 13 9 false 0 1, .gn 14 9 false 13, .g 15 9 false
 (.bin .neq false (.tmp 12) (.tmp 14)), .pt 16 9 15, .m 3 16], .ret]
def ui_ : LF := ⟨2, 17, c73, [.tmp 3]⟩
theorem xR_ : as_ prog Tryz.f73 ui_ := al_
theorem jh_ (p : ao_) (d : aq_) (hd : d.Sectors.length ≤ 1048576) (h : List Row) : aa_ prog 73 [.agg (ao_.cells p), .iptr (aq_.cells d)] h (.val (.bool (b7_ d p))) := by
 refine ah_ mixed Tryz.func73 xR_ rfl rfl ?_ h
 simp (disch := omega) only [ui_, c73, aq_.cells, ao_.cells, go_sem, reduceEqDiff, Nat.reduceAdd, ↓reduceIte]
 repeat' (first
  | exact ad_ _ _
  | (refine ag_ ?_; first | rfl | (simp only [b7_, wq_, *, Bool.true_or, Bool.false_or, Bool.not_true, Bool.not_false]; done) | (simp [b7_, wq_, *]; done))
  | simp (disch := omega) only [go_sem, reduceEqDiff, Nat.reduceAdd, ↓reduceIte]
  | (refine aa_.call (gS_ d p.At hd _) ?_)
  | (refine aa_.q (gS_ d p.At hd _) ?_)
  | ((first | (apply bf_; assumption) | (apply bh_; assumption) | (apply bs_; assumption) | (apply bt_; assumption)); intro hb; try simp only [hb])
  | ((first | (apply aF_; assumption) | (apply aE_; assumption) | (apply aP_; assumption) | (apply aO_; assumption)); intro hb; try simp only [hb])
  | ((first | apply aH_ | apply aM_ | apply an_ | apply ap_) <;> intro hb <;> (try simp only [hb]) <;> (first | have hp := a2_ hb | have hp := a4_ hb | have hp := a5_ hb | have hp := a3_ hb | skip)))
def c44 : LC :=
 .q [.o [.bx 1 33 0, .f 2], .q [.o [.fa 3 0 1, .ln 4 3, .s 5 (.call 45 [.tmp 4, .const (.int .i64 1), .const (.int .i64 2000)]), .nt 6 5, .m 7 6, .gf 8 7 false 1 1, .gn 9 7 false 8, .gc 10 7 false 46 9, .g 11 7 false
 (.call 45 [.tmp 10, .const (.int .i64 1), .const (.int .i64 400)]), .gu 12 7 false 11, .pt 13 7 12, .m 14 13, .gf 15 14 false 2 1, .gn 16 14 false 15, .g 17 14 false (.lenSl (.tmp 16)), .g 18 14 false (.bin .gtr false
 (.tmp 17) (.const (.int .i64 400))), .pt 19 14 18], .k 19 (.q [.o [.f 2], .ret]) .skip], .q [.o [.fa 20 1 1, .ln 21 20, .s 22 (.mkFunc 71 [] [.tmp 1]), .c2 23 70 21 22], .k 23 (.q [.o [.f 2], .ret]) .skip], .o [.fa 24 2
 1, .ln 25 24, .s 26 (.mkFunc 73 [] [.tmp 1]), .c2 27 72 25 26, .nt 28 27, .m 2 28], .ret]
def wy_ : LF := ⟨1, 29, c44, [.tmp 2]⟩
theorem xc_ : as_ prog Tryz.f44 wy_ := al_
def c34 : LC :=
 .q [.o [.bx 1 33 0, .f 2], .o [.fa 6 1 1, .ln 7 6, .ll 8 7, .m 3 8], .q [.o [.fa 9 0 1, .ln 10 9, .s 11 (.call 35 [.tmp 10, .const (.int .i64 1), .const (.int .i64 2000)]), .nt 12 11, .m 13 12, .gm 14 13 false 3, .g 15
 13 false (.bin .lss false (.tmp 14) (.const (.int .i64 1))), .pt 16 13 15, .m 17 16, .gm 18 17 false 3, .g 19 17 false (.bin .gtr false (.tmp 18) (.const (.int .i64 400))), .pt 20 17 19, .m 21 20, .gf 22 21 false 2 1,
 .gn 23 21 false 22, .g 24 21 false (.lenSl (.tmp 23)), .g 25 21 false (.bin .gtr false (.tmp 24) (.const (.int .i64 400))), .pt 26 21 25], .k 26 (.q [.o [.f 2], .ret]) .skip], .q [.o [.ki 4 0], .block 0 (.loop (.q [.q
 [.o [.m 27 4, .fa 28 1 1, .ln 29 28, .ll 30 29, .bb 31 .lss false 27 30], .k 31 .skip (.exit 0)], .block 1 (.q [.dops [.fa 34 1 1, .ln 35 34, .m 36 4, .ia 37 1 35 36, .ln 38 37, .s 39 (.lenStr (.tmp 38)), .fa 40 0 1, .ln
 41 40, .bb 42 .neq false 39 41], .k 42 (.q [.o [.f 2], .ret]) .skip]), .o [.m 32 4, .bk 33 .add false 32 1, .m 4 33]]))], .q [.o [.ki 5 0], .block 2 (.loop (.q [.q [.o [.m 43 5, .fa 44 2 1, .ln 45 44, .ll 46 45, .bb 47
 .lss false 43 46], .k 47 .skip (.exit 2)], .block 3 (.q [.dops [.fa 50 2 1, .ln 51 50, .m 52 5, .ia 53 2 51 52, .fa 54 0 53, .ln 55 54, .m 56 3, .bk 57 .sub false 56 1, .s 58 (.call 35 [.tmp 55, .const (.int .i64 0),
 .tmp 57]), .nt 59 58, .m 60 59, .gf 61 60 false 2 1, .gn 62 60 false 61, .gm 63 60 false 5, .g 64 60 false (.indexAddr 2 (.tmp 62) (.tmp 63)), .gf 65 60 false 1 64, .gn 66 60 false 65, .g 67 60 false (.lenStr (.tmp 66)),
 .gf 68 60 false 0 1, .gn 69 60 false 68, .g 70 60 false (.bin .neq false (.tmp 67) (.tmp 69)), .pt 71 60 70], .k 71 (.q [.o [.f 2], .ret]) .skip]), .o [.m 48 5, .bk 49 .add false 48 1, .m 5 49]]))], .o [.t 2], .ret]
def uK_ : LF := ⟨1, 72, c34, [.tmp 2]⟩
theorem wX_ : as_ prog Tryz.f34 uK_ := al_
theorem hT_ (d : aq_) (hs : d.Sectors.length ≤ 1048576) (hp : d.Puts.length ≤ 1048576) (h : List Row) : aa_ prog 44 [.agg (aq_.cells d)] h (.val (.bool (b6_ d))) := by
 refine ah_ mixed Tryz.func44 xc_ rfl rfl ?_ h
 have hc1 : ∀ H : List Row, ∀ l : Nat, H[l]? = some ⟨33, 3, [aq_.cells d]⟩ → aa_ prog 70 [.list 0 1 (d.Sectors.map ax_), .fn 71 [] [.ptr l 1 0 0]] H (.val (.bool (d.Sectors.any (d5_ d)))) := by
  intro H l hl
  refine ox_ (n := 3) rfl (fun h => fq_ d.Sectors (d5_ d) 71 [.iptr (aq_.cells d)] rfl hs (by kernel_rfl) (fun x hx' h => jl_ x d h) h) ?_
  exact lL_ rfl (eZ_ (qs_ rfl (eZ_ (oD_ hl rfl (by show 0 < 3; decide)))))
 have hc2 : ∀ H : List Row, ∀ l : Nat, H[l]? = some ⟨33, 3, [aq_.cells d]⟩ → aa_ prog 72 [.list 0 2 (d.Puts.map ao_.cells), .fn 73 [] [.ptr l 1 0 0]] H (.val (.bool (d.Puts.any (b7_ d)))) := by
  intro H l hl
  refine ox_ (n := 3) rfl (fun h => fd_ d.Puts (b7_ d) 73 [.iptr (aq_.cells d)] rfl hp (by kernel_rfl) (fun x hx' h => jh_ x d hs h) h) ?_
  exact lL_ rfl (eZ_ (qs_ rfl (eZ_ (oD_ hl rfl (by show 0 < 3; decide)))))
 simp (disch := omega) only [wy_, c44, aq_.cells, go_sem, reduceEqDiff, Nat.reduceAdd, ↓reduceIte]
 repeat' (first
  | exact ad_ _ _
  | (refine ag_ ?_; first | rfl | (simp only [b6_, *, Bool.true_and, Bool.and_false, Bool.false_and, Bool.not_true, Bool.not_false, decide_true, decide_false, Bool.and_self]; done) | (simp [b6_, *]; done))
  | simp (disch := omega) only [go_sem, reduceEqDiff, ↓reduceIte]
  | (refine aa_.call (bc_ _ _) ?_)
  | (refine aa_.q (bc_ _ _) ?_)
  | (refine aa_.call (bC_ _ _ _ _) ?_)
  | (refine aa_.q (bC_ _ _ _ _) ?_)
  | (refine aa_.call (hc1 _ 0 rfl) ?_)
  | (refine aa_.q (hc1 _ 0 rfl) ?_)
  | (refine aa_.call (hc2 _ 0 rfl) ?_)
  | (refine aa_.q (hc2 _ 0 rfl) ?_)
  | ((first | (apply bf_; assumption) | (apply bh_; assumption) | (apply bs_; assumption) | (apply bt_; assumption)); intro hb; try simp only [hb])
  | ((first | (apply aF_; assumption) | (apply aE_; assumption) | (apply aP_; assumption) | (apply aO_; assumption)); intro hb; try simp only [hb])
  | ((first | apply aH_ | apply aM_ | apply an_ | apply ap_) <;> intro hb <;> (try simp only [hb]) <;> (first | have hp := a2_ hb | have hp := a4_ hb | have hp := a5_ hb | have hp := a3_ hb | skip)))
theorem eE_ (d : aq_) (hs : d.Sectors.length ≤ 1048576) (hp : d.Puts.length ≤ 1048576) (h : List Row) : aa_ prog 34 [.agg (aq_.cells d)] h (.val (.bool (b6_ d))) := by
 refine ah_ mixed Tryz.func34 wX_ rfl rfl ?_ h
 have hW : br_ d.Sectors.length 1 400 = (!decide ((d.Sectors.length : Int) < 1) && !decide (400 < (d.Sectors.length : Int))) := by unfold br_; rw [Bool.eq_iff_iff]; simp
 simp (disch := omega) only [uK_, c34, aq_.cells, go_sem, reduceEqDiff, Nat.reduceAdd, ↓reduceIte]
 repeat' (first
  | exact ad_ _ _
  | (refine ag_ ?_; simp only [b6_, *, Bool.and_false, Bool.false_and, Bool.not_true, Bool.not_false, decide_true, decide_false, Bool.and_self]; done)
  | simp (disch := omega) only [go_sem, reduceEqDiff, ↓reduceIte]
  | (refine aa_.call (bj_ _ _ _ _) ?_)
  | (refine aa_.q (bj_ _ _ _ _) ?_)
  | ((first | (apply bf_; assumption) | (apply bh_; assumption) | (apply bs_; assumption) | (apply bt_; assumption)); intro hb; try simp only [hb])
  | ((first | (apply aF_; assumption) | (apply aE_; assumption) | (apply aP_; assumption) | (apply aO_; assumption)); intro hb; try simp only [hb])
  | ((first | (apply dG_; assumption) | (apply du_; assumption) | (apply er_; assumption) | (apply ex_; assumption)); intro hb; try simp only [hb])
  | ((first | apply aH_ | apply aM_ | apply an_ | apply ap_ | apply bV_ | apply cf_) <;> intro hb <;> (try simp only [hb]) <;> (first | have hp := a2_ hb | have hp := a4_ hb | have hp := a5_ hb | have hp := a3_ hb | skip)))
 have hS0 : b6_ d = (!d.Sectors.any (d5_ d) && !d.Puts.any (b7_ d)) := by (simp only [b6_, *, Bool.true_and, Bool.not_false, decide_false, Bool.and_self])
 refine aJ_ (fun n t h => ∃ k : Nat, t 1 = .ptr 0 1 0 0 ∧ t 3 = .val (.int .i64 d.Sectors.length) ∧ t 4 = .val (.int .i64 k) ∧ h[0]? = some ⟨33, 3, [[.val (.int .i64 d.Wide), .list 0 1 (d.Sectors.map ax_), .list 0 2 (d.Puts.map ao_.cells)]]⟩ ∧ n = d.Sectors.length - k ∧ k ≤ d.Sectors.length ∧ (d.Sectors.any (d5_ d) = (d.Sectors.drop k).any (d5_ d))) (d.Sectors.length) ?_ ?_
 ·exact ⟨0, rfl, rfl, rfl, rfl, rfl, Nat.zero_le _, rfl⟩
 ·rintro J hJ n t h ⟨k, t1, t3, k4, o0, rfl, hk, hS⟩
  have p0 : ∀ l, (h ++ l)[0]? = some ⟨33, 3, [[.val (.int .i64 d.Wide), .list 0 1 (d.Sectors.map ax_), .list 0 2 (d.Puts.map ao_.cells)]]⟩ := fun l => be_ o0
  by_cases hlt : k < d.Sectors.length
  ·skip
   rw [drop_eq_getElem_cons hlt, any_cons] at hS
   simp only [d5_] at hS
   simp (disch := omega) only [t1, k4, o0, hlt, ax_, go_sem, reduceEqDiff, ↓reduceIte]
   repeat' (first
    | exact ad_ _ _
    | exact ⟨d.Sectors.length - (k + 1), by omega, hJ _ _ _ ⟨k + 1, by simp [upd, t1], by simp [upd, t3], by simp [upd], by first | exact o0 | exact p0 _, rfl, by omega, by rw [hS]; simp only [*, Bool.false_or, Bool.not_true]; done⟩⟩
    | (refine ag_ ?_; rw [hS0, hS]; simp only [*, Bool.false_and, Bool.true_or, Bool.not_true, Bool.not_false]; done)
    | (
     have hn : d.Sectors.drop k = [] := drop_eq_nil_of_le (by omega)
     rw [hn, any_nil] at hS
     have hS1 : b6_ d = !d.Puts.any (b7_ d) := by simp only [hS0, hS, Bool.and_true, Bool.true_and, Bool.and_false, Bool.false_and, Bool.or_true, Bool.true_or, Bool.or_false, Bool.false_or, Bool.not_true, Bool.not_false, decide_true, decide_false, Bool.and_self, Bool.or_self]
     clear hS hS0
     refine aJ_ (fun n t h => ∃ k : Nat, t 1 = .ptr 0 1 0 0 ∧ t 3 = .val (.int .i64 d.Sectors.length) ∧ t 5 = .val (.int .i64 k) ∧ h[0]? = some ⟨33, 3, [[.val (.int .i64 d.Wide), .list 0 1 (d.Sectors.map ax_), .list 0 2 (d.Puts.map ao_.cells)]]⟩ ∧ n = d.Puts.length - k ∧ k ≤ d.Puts.length ∧ (d.Puts.any (b7_ d) = (d.Puts.drop k).any (b7_ d))) (d.Puts.length) ?_ ?_
     ·exact ⟨0, (by first | rfl | (simp [upd]; done) | (simp [upd]; assumption)), (by first | rfl | (simp [upd]; done) | (simp [upd]; assumption)), (by first | rfl | (simp [upd]; done) | (simp [upd]; assumption)), (by assumption), rfl, Nat.zero_le _, rfl⟩
     ·rintro J hJ n t h ⟨k, t1, t3, k5, o0, rfl, hk, hS⟩
      have p0 : ∀ l, (h ++ l)[0]? = some ⟨33, 3, [[.val (.int .i64 d.Wide), .list 0 1 (d.Sectors.map ax_), .list 0 2 (d.Puts.map ao_.cells)]]⟩ := fun l => be_ o0
      by_cases hlt : k < d.Puts.length
      ·skip
       rw [drop_eq_getElem_cons hlt, any_cons] at hS
       simp only [b7_, cm_] at hS
       simp (disch := omega) only [t1, t3, k5, o0, p0, hlt, ao_.cells, az_, go_sem, reduceEqDiff, Nat.reduceAdd, reduceLeDiff, reduceCtorEq, Int.reduceLT, Int.reduceLE, Int.reduceNeg, Int.reduceSub, Int.reduceAdd, Int.reduceToNat, ↓reduceIte]
       repeat' (first
        | exact ad_ _ _
        | exact ⟨d.Puts.length - (k + 1), by omega, hJ _ _ _ ⟨k + 1, by simp [upd, t1], by simp [upd, t3], by simp [upd], by first | exact o0 | exact p0 _, rfl, by omega, by rw [hS]; simp only [b7_, cm_, *, Bool.and_true, Bool.true_and, Bool.and_false, Bool.false_and, Bool.or_true, Bool.true_or, Bool.or_false, Bool.false_or, Bool.not_true, Bool.not_false, decide_true, decide_false, Bool.and_self, Bool.or_self]; done⟩⟩
        | (refine ag_ ?_; rw [hS1, hS]; simp only [*, Bool.and_true, Bool.true_and, Bool.and_false, Bool.false_and, Bool.or_true, Bool.true_or, Bool.or_false, Bool.false_or, Bool.not_true, Bool.not_false, decide_true, decide_false, Bool.and_self, Bool.or_self]; done)
        | (refine ag_ ?_; rw [hS1, hS, drop_eq_nil_of_le (by omega)]; rfl)
        | simp (disch := omega) only [t1, t3, k5, o0, p0, go_sem, reduceEqDiff, Nat.reduceAdd, reduceLeDiff, reduceCtorEq, Int.reduceLT, Int.reduceLE, Int.reduceNeg, Int.reduceSub, Int.reduceAdd, Int.reduceToNat, ↓reduceIte]
        | (refine aa_.call (bj_ _ _ _ _) ?_)
        | (refine aa_.q (bj_ _ _ _ _) ?_)
        | ((first | (apply bf_; assumption) | (apply bh_; assumption) | (apply bs_; assumption) | (apply bt_; assumption)); intro hb; try simp only [hb])
        | ((first | (apply aF_; assumption) | (apply aE_; assumption) | (apply aP_; assumption) | (apply aO_; assumption)); intro hb; try simp only [hb])
        | ((first | (apply dG_; assumption) | (apply du_; assumption) | (apply er_; assumption) | (apply ex_; assumption)); intro hb; try simp only [hb])
        | ((first | apply aH_ | apply aM_ | apply an_ | apply ap_ | apply bV_ | apply cf_) <;> intro hb <;> (try simp only [hb]) <;> (first | have hp := a2_ hb | have hp := a4_ hb | have hp := a5_ hb | have hp := a3_ hb | skip)))
      ·skip
       simp (disch := omega) only [t1, t3, k5, o0, p0, hlt, ao_.cells, az_, go_sem, reduceEqDiff, Nat.reduceAdd, reduceLeDiff, reduceCtorEq, Int.reduceLT, Int.reduceLE, Int.reduceNeg, Int.reduceSub, Int.reduceAdd, Int.reduceToNat, ↓reduceIte]
       repeat' (first
        | exact ad_ _ _
        | (refine ag_ ?_; rw [hS1, hS]; simp only [*, Bool.and_true, Bool.true_and, Bool.and_false, Bool.false_and, Bool.or_true, Bool.true_or, Bool.or_false, Bool.false_or, Bool.not_true, Bool.not_false, decide_true, decide_false, Bool.and_self, Bool.or_self]; done)
        | (refine ag_ ?_; rw [hS1, hS, drop_eq_nil_of_le (by omega)]; rfl)
        | simp (disch := omega) only [t1, t3, k5, o0, p0, go_sem, reduceEqDiff, Nat.reduceAdd, reduceLeDiff, reduceCtorEq, Int.reduceLT, Int.reduceLE, Int.reduceNeg, Int.reduceSub, Int.reduceAdd, Int.reduceToNat, ↓reduceIte]
        | (refine aa_.call (bj_ _ _ _ _) ?_)
        | (refine aa_.q (bj_ _ _ _ _) ?_)
        | ((first | (apply bf_; assumption) | (apply bh_; assumption) | (apply bs_; assumption) | (apply bt_; assumption)); intro hb; try simp only [hb])
        | ((first | (apply aF_; assumption) | (apply aE_; assumption) | (apply aP_; assumption) | (apply aO_; assumption)); intro hb; try simp only [hb])
        | ((first | (apply dG_; assumption) | (apply du_; assumption) | (apply er_; assumption) | (apply ex_; assumption)); intro hb; try simp only [hb])
        | ((first | apply aH_ | apply aM_ | apply an_ | apply ap_ | apply bV_ | apply cf_) <;> intro hb <;> (try simp only [hb]) <;> (first | have hp := a2_ hb | have hp := a4_ hb | have hp := a5_ hb | have hp := a3_ hb | skip))))
    | simp (disch := omega) only [k4, go_sem, reduceEqDiff, ↓reduceIte]
    | ((first | (apply bf_; assumption) | (apply bh_; assumption) | (apply bs_; assumption) | (apply bt_; assumption)); intro hb; try simp only [hb])
    | ((first | (apply aF_; assumption) | (apply aE_; assumption) | (apply aP_; assumption) | (apply aO_; assumption)); intro hb; try simp only [hb])
    | ((first | (apply dG_; assumption) | (apply du_; assumption) | (apply er_; assumption) | (apply ex_; assumption)); intro hb; try simp only [hb])
    | ((first | apply aH_ | apply aM_ | apply an_ | apply ap_ | apply bV_ | apply cf_) <;> intro hb <;> (try simp only [hb]) <;> (first | have hp := a2_ hb | have hp := a4_ hb | have hp := a5_ hb | have hp := a3_ hb | skip)))
  ·skip
   simp (disch := omega) only [t1, k4, o0, hlt, go_sem, reduceEqDiff, ↓reduceIte]
   repeat' (first
    | exact ad_ _ _
    | (refine ag_ ?_; rw [hS0, hS]; simp only [*, Bool.and_true, Bool.true_and, Bool.and_false, Bool.false_and, Bool.or_true, Bool.true_or, Bool.or_false, Bool.false_or, Bool.not_true, Bool.not_false, decide_true, decide_false, Bool.and_self, Bool.or_self]; done)
    | (
     have hn : d.Sectors.drop k = [] := drop_eq_nil_of_le (by omega)
     rw [hn, any_nil] at hS
     have hS1 : b6_ d = !d.Puts.any (b7_ d) := by simp only [hS0, hS, Bool.true_and, Bool.not_false]
     clear hS hS0
     refine aJ_ (fun n t h => ∃ k : Nat, t 1 = .ptr 0 1 0 0 ∧ t 3 = .val (.int .i64 d.Sectors.length) ∧ t 5 = .val (.int .i64 k) ∧ h[0]? = some ⟨33, 3, [[.val (.int .i64 d.Wide), .list 0 1 (d.Sectors.map ax_), .list 0 2 (d.Puts.map ao_.cells)]]⟩ ∧ n = d.Puts.length - k ∧ k ≤ d.Puts.length ∧ (d.Puts.any (b7_ d) = (d.Puts.drop k).any (b7_ d))) (d.Puts.length) ?_ ?_
     ·exact ⟨0, (by first | rfl | (simp [upd]; done) | (simp [upd]; assumption)), (by first | rfl | (simp [upd]; done) | (simp [upd]; assumption)), (by first | rfl | (simp [upd]; done) | (simp [upd]; assumption)), (by assumption), rfl, Nat.zero_le _, rfl⟩
     ·rintro J hJ n t h ⟨k, t1, t3, k5, o0, rfl, hk, hS⟩
      have p0 : ∀ l, (h ++ l)[0]? = some ⟨33, 3, [[.val (.int .i64 d.Wide), .list 0 1 (d.Sectors.map ax_), .list 0 2 (d.Puts.map ao_.cells)]]⟩ := fun l => be_ o0
      by_cases hlt : k < d.Puts.length
      ·skip
       rw [drop_eq_getElem_cons hlt, any_cons] at hS
       simp only [b7_, cm_] at hS
       simp (disch := omega) only [t1, t3, k5, o0, hlt, ao_.cells, az_, go_sem, reduceEqDiff, Nat.reduceAdd, ↓reduceIte]
       repeat' (first
        | exact ad_ _ _
        | exact ⟨d.Puts.length - (k + 1), by omega, hJ _ _ _ ⟨k + 1, by simp [upd, t1], by simp [upd, t3], by simp [upd], by first | exact o0 | exact p0 _, rfl, by omega, by rw [hS]; simp only [*, Bool.false_or, Bool.not_true, Bool.or_self]; done⟩⟩
        | (refine ag_ ?_; rw [hS1, hS]; simp only [*, Bool.or_true, Bool.true_or, Bool.not_true, Bool.not_false]; done)
        | (refine ag_ ?_; rw [hS1, hS, drop_eq_nil_of_le (by omega)]; rfl)
        | simp (disch := omega) only [t1, k5, o0, go_sem, reduceEqDiff, ↓reduceIte]
        | (refine aa_.call (bj_ _ _ _ _) ?_)
        | (refine aa_.q (bj_ _ _ _ _) ?_)
        | ((first | (apply bf_; assumption) | (apply bh_; assumption) | (apply bs_; assumption) | (apply bt_; assumption)); intro hb; try simp only [hb])
        | ((first | (apply aF_; assumption) | (apply aE_; assumption) | (apply aP_; assumption) | (apply aO_; assumption)); intro hb; try simp only [hb])
        | ((first | (apply dG_; assumption) | (apply du_; assumption) | (apply er_; assumption) | (apply ex_; assumption)); intro hb; try simp only [hb])
        | ((first | apply aH_ | apply aM_ | apply an_ | apply ap_ | apply bV_ | apply cf_) <;> intro hb <;> (try simp only [hb]) <;> (first | have hp := a2_ hb | have hp := a4_ hb | have hp := a5_ hb | have hp := a3_ hb | skip)))
      ·skip
       simp (disch := omega) only [t1, k5, o0, hlt, go_sem, reduceEqDiff, ↓reduceIte]
       repeat' (first
        | exact ad_ _ _
        | (refine ag_ ?_; rw [hS1, hS]; simp only [*, Bool.and_true, Bool.true_and, Bool.and_false, Bool.false_and, Bool.or_true, Bool.true_or, Bool.or_false, Bool.false_or, Bool.not_true, Bool.not_false, decide_true, decide_false, Bool.and_self, Bool.or_self]; done)
        | (refine ag_ ?_; rw [hS1, hS, drop_eq_nil_of_le (by omega)]; rfl)
        | simp (disch := omega) only [t1, t3, k5, o0, p0, go_sem, reduceEqDiff, Nat.reduceAdd, reduceLeDiff, reduceCtorEq, Int.reduceLT, Int.reduceLE, Int.reduceNeg, Int.reduceSub, Int.reduceAdd, Int.reduceToNat, ↓reduceIte]
        | (refine aa_.call (bj_ _ _ _ _) ?_)
        | (refine aa_.q (bj_ _ _ _ _) ?_)
        | ((first | (apply bf_; assumption) | (apply bh_; assumption) | (apply bs_; assumption) | (apply bt_; assumption)); intro hb; try simp only [hb])
        | ((first | (apply aF_; assumption) | (apply aE_; assumption) | (apply aP_; assumption) | (apply aO_; assumption)); intro hb; try simp only [hb])
        | ((first | (apply dG_; assumption) | (apply du_; assumption) | (apply er_; assumption) | (apply ex_; assumption)); intro hb; try simp only [hb])
        | ((first | apply aH_ | apply aM_ | apply an_ | apply ap_ | apply bV_ | apply cf_) <;> intro hb <;> (try simp only [hb]) <;> (first | have hp := a2_ hb | have hp := a4_ hb | have hp := a5_ hb | have hp := a3_ hb | skip))))
    | simp (disch := omega) only [t1, t3, k4, o0, p0, go_sem, reduceEqDiff, Nat.reduceAdd, reduceLeDiff, reduceCtorEq, Int.reduceLT, Int.reduceLE, Int.reduceNeg, Int.reduceSub, Int.reduceAdd, Int.reduceToNat, ↓reduceIte]
    | ((first | (apply bf_; assumption) | (apply bh_; assumption) | (apply bs_; assumption) | (apply bt_; assumption)); intro hb; try simp only [hb])
    | ((first | (apply aF_; assumption) | (apply aE_; assumption) | (apply aP_; assumption) | (apply aO_; assumption)); intro hb; try simp only [hb])
    | ((first | (apply dG_; assumption) | (apply du_; assumption) | (apply er_; assumption) | (apply ex_; assumption)); intro hb; try simp only [hb])
    | ((first | apply aH_ | apply aM_ | apply an_ | apply ap_ | apply bV_ | apply cf_) <;> intro hb <;> (try simp only [hb]) <;> (first | have hp := a2_ hb | have hp := a4_ hb | have hp := a5_ hb | have hp := a3_ hb | skip)))
def bb_ (j : ac_) : Bool := b6_ j.Disk && decide (j.Disk.Wide = 128) && br_ j.Life 1 2000000000 && br_ j.From 1 2000000000 && br_ j.Last (j.From - 1) 2000000000 && br_ j.At 0 j.Disk.Sectors.length
def c22 : LC :=
 .q [.o [.bx 1 35 0, .f 2], .dops [.fa 3 0 1, .ld 4 3 3, .c1 5 44 4, .m 6 5, .gf 7 6 true 0 1, .gf 8 6 true 0 7, .gn 9 6 true 8, .g 10 6 true (.bin .eql false (.tmp 9) (.const (.int .i64 128))), .pf 11 6 10, .m 12 11, .gf
 13 12 true 3 1, .gn 14 12 true 13, .g 15 12 true (.call 45 [.tmp 14, .const (.int .i64 1), .const (.int .i64 2000000000)]), .pf 16 12 15, .m 17 16, .gf 18 17 true 4 1, .gn 19 17 true 18, .g 20 17 true (.call 45 [.tmp 19,
 .const (.int .i64 1), .const (.int .i64 2000000000)]), .pf 21 17 20, .m 22 21, .gf 23 22 true 5 1, .gn 24 22 true 23, .gf 25 22 true 4 1, .gn 26 22 true 25, .g 27 22 true (.bin .sub false (.tmp 26) (.const (.int .i64
 1))), .g 28 22 true (.call 45 [.tmp 24, .tmp 27, .const (.int .i64 2000000000)]), .pf 29 22 28, .m 30 29, .gf 31 30 true 6 1, .gn 32 30 true 31, .gf 33 30 true 0 1, .gf 34 30 true 1 33, .gn 35 30 true 34, .gc 36 30 true
 46 35, .g 37 30 true (.call 45 [.tmp 32, .const (.int .i64 0), .tmp 36]), .pf 38 30 37, .m 2 38], .ret]
def uB_ : LF := ⟨1, 39, c22, [.tmp 2]⟩
theorem wP_ : as_ prog Tryz.f22 uB_ := al_
def c17 : LC :=
 .q [.o [.bx 1 35 0, .f 2], .o [.fa 3 0 1, .ld 4 3 3, .c1 5 34 4, .m 6 5, .gf 7 6 true 0 1, .gf 8 6 true 0 7, .gn 9 6 true 8, .g 10 6 true (.bin .eql false (.tmp 9) (.const (.int .i64 128))), .pf 11 6 10, .m 12 11, .gf 13
 12 true 3 1, .gn 14 12 true 13, .g 15 12 true (.call 35 [.tmp 14, .const (.int .i64 1), .const (.int .i64 2000000000)]), .pf 16 12 15, .m 17 16, .gf 18 17 true 4 1, .gn 19 17 true 18, .g 20 17 true (.call 35 [.tmp 19,
 .const (.int .i64 1), .const (.int .i64 2000000000)]), .pf 21 17 20, .m 22 21, .gf 23 22 true 5 1, .gn 24 22 true 23, .gf 25 22 true 4 1, .gn 26 22 true 25, .g 27 22 true (.bin .sub false (.tmp 26) (.const (.int .i64
 1))), .g 28 22 true (.call 35 [.tmp 24, .tmp 27, .const (.int .i64 2000000000)]), .pf 29 22 28, .m 30 29, .gf 31 30 true 6 1, .gn 32 30 true 31, .gf 33 30 true 0 1, .gf 34 30 true 1 33, .gn 35 30 true 34, .g 36 30 true
 (.lenSl (.tmp 35)), .g 37 30 true (.call 35 [.tmp 32, .const (.int .i64 0), .tmp 36]), .pf 38 30 37, .m 2 38], .ret]
def wz_ : LF := ⟨1, 39, c17, [.tmp 2]⟩
theorem w9_ : as_ prog Tryz.f17 wz_ := al_
theorem gB_ (d : aq_) : aq_.cells d = [.val (.int .i64 d.Wide), .list 0 1 (d.Sectors.map ax_), .list 0 2 (d.Puts.map ao_.cells)] := rfl
theorem ji_ (j : ac_) (hj : ac_.sz j ≤ 1048576) (h : List Row) : aa_ prog 22 [.agg (ac_.cells j)] h (.val (.bool (bb_ j))) := by
 refine ah_ mixed Tryz.func22 wP_ rfl rfl ?_ h
 have hd := ac_.sz_Disk hj
 have hs := bq_ (aq_.sz_Sectors hd)
 simp (disch := omega) only [uB_, c22, ac_.cells, go_sem, reduceEqDiff, Nat.reduceAdd, reduceLeDiff, ↓reduceIte]
 first | refine aa_.call (hT_ j.Disk hs (bq_ (aq_.sz_Puts hd)) _) ?_ | refine aa_.q (hT_ j.Disk hs (bq_ (aq_.sz_Puts hd)) _) ?_
 by_cases q : br_ j.From 1 2000000000 = true
 case pos =>
  have q' := q
  simp only [br_, Bool.and_eq_true, decide_eq_true_eq] at q'
  obtain ⟨q1, q2⟩ := q'
  repeat' (first
   | exact ad_ _ _
   | (refine ag_ ?_; first | rfl | (simp only [bb_, *, Bool.and_true, Bool.true_and, Bool.and_false, Bool.false_and, Bool.and_self]; done) | (simp [bb_, *]; done))
   | simp (disch := omega) only [az_, go_sem, reduceEqDiff, ↓reduceIte]
   | (refine aa_.call (bC_ _ _ _ _) ?_)
   | (refine aa_.q (bC_ _ _ _ _) ?_)
   | (refine aa_.call (bc_ _ _) ?_)
   | (refine aa_.q (bc_ _ _) ?_)
   | ((first | (apply aF_; assumption) | (apply aE_; assumption) | (apply aP_; assumption) | (apply aO_; assumption)); intro hb; try simp only [hb])
   | ((first | (apply dG_; assumption) | (apply du_; assumption) | (apply er_; assumption) | (apply ex_; assumption)); intro hb; try simp only [hb])
   | ((first | apply an_ | apply ap_ | apply bV_ | apply cf_) <;> intro hb <;> (try simp only [hb]) <;> (first | have hp := a2_ hb | have hp := a4_ hb | have hp := a5_ hb | have hp := a3_ hb | skip)))
 case neg =>
  have q' : br_ j.From 1 2000000000 = false := by simpa using q
  repeat' (first
   | exact ad_ _ _
   | (refine ag_ ?_; simp only [bb_, *, Bool.and_false, Bool.false_and, Bool.and_self]; done)
   | (exfalso; simp_all; done)
   | (refine ag_ ?_; first | rfl | (simp only [bb_, *, Bool.and_true, Bool.true_and, Bool.and_false, Bool.false_and, Bool.or_true, Bool.true_or, Bool.or_false, Bool.false_or, Bool.not_true, Bool.not_false, decide_true, decide_false, Bool.and_self, Bool.or_self]; done) | (simp [bb_, *]; done))
   | simp (disch := omega) only [go_sem, reduceEqDiff, ↓reduceIte]
   | (refine aa_.call (bC_ _ _ _ _) ?_)
   | (refine aa_.q (bC_ _ _ _ _) ?_)
   | (refine aa_.call (bc_ _ _) ?_)
   | (refine aa_.q (bc_ _ _) ?_)
   | ((first | (apply aF_; assumption) | (apply aE_; assumption) | (apply aP_; assumption) | (apply aO_; assumption)); intro hb; try simp only [hb])
   | ((first | (apply dG_; assumption) | (apply du_; assumption) | (apply er_; assumption) | (apply ex_; assumption)); intro hb; try simp only [hb])
   | ((first | apply an_ | apply ap_ | apply bV_ | apply cf_) <;> intro hb <;> (try simp only [hb]) <;> (first | have hp := a2_ hb | have hp := a4_ hb | have hp := a5_ hb | have hp := a3_ hb | skip)))
theorem f8_ (j : ac_) (hj : ac_.sz j ≤ 1048576) (h : List Row) : aa_ prog 17 [.agg (ac_.cells j)] h (.val (.bool (bb_ j))) := by
 refine ah_ mixed Tryz.func17 w9_ rfl rfl ?_ h
 have hd := ac_.sz_Disk hj
 have hs := bq_ (aq_.sz_Sectors hd)
 simp (disch := omega) only [wz_, c17, ac_.cells, go_sem, reduceEqDiff, Nat.reduceAdd, reduceLeDiff, ↓reduceIte]
 first | refine aa_.call (eE_ j.Disk hs (bq_ (aq_.sz_Puts hd)) _) ?_ | refine aa_.q (eE_ j.Disk hs (bq_ (aq_.sz_Puts hd)) _) ?_
 by_cases q : br_ j.From 1 2000000000 = true
 case pos =>
  have q' := q
  simp only [br_, Bool.and_eq_true, decide_eq_true_eq] at q'
  obtain ⟨q1, q2⟩ := q'
  repeat' (first
   | exact ad_ _ _
   | (refine ag_ ?_; first | rfl | (simp only [bb_, *, Bool.and_true, Bool.true_and, Bool.and_false, Bool.false_and, Bool.and_self]; done) | (simp [bb_, *]; done))
   | simp (disch := omega) only [az_, go_sem, reduceEqDiff, ↓reduceIte]
   | (refine aa_.call (bj_ _ _ _ _) ?_)
   | (refine aa_.q (bj_ _ _ _ _) ?_)
   | ((first | (apply bf_; assumption) | (apply bh_; assumption) | (apply bs_; assumption) | (apply bt_; assumption)); intro hb; try simp only [hb])
   | ((first | (apply aF_; assumption) | (apply aE_; assumption) | (apply aP_; assumption) | (apply aO_; assumption)); intro hb; try simp only [hb])
   | ((first | apply aH_ | apply aM_ | apply an_ | apply ap_) <;> intro hb <;> (try simp only [hb]) <;> (first | have hp := a2_ hb | have hp := a4_ hb | have hp := a5_ hb | have hp := a3_ hb | skip)))
 case neg =>
  have q' : br_ j.From 1 2000000000 = false := by simpa using q
  repeat' (first
   | exact ad_ _ _
   | (refine ag_ ?_; simp only [bb_, *, Bool.and_false, Bool.false_and, Bool.and_self]; done)
   | (exfalso; simp_all; done)
   | (refine ag_ ?_; first | rfl | (simp only [bb_, *, Bool.and_true, Bool.true_and, Bool.and_false, Bool.false_and, Bool.or_true, Bool.true_or, Bool.or_false, Bool.false_or, Bool.not_true, Bool.not_false, decide_true, decide_false, Bool.and_self, Bool.or_self]; done) | (simp [bb_, *]; done))
   | simp (disch := omega) only [go_sem, reduceEqDiff, ↓reduceIte]
   | (refine aa_.call (bj_ _ _ _ _) ?_)
   | (refine aa_.q (bj_ _ _ _ _) ?_)
   | ((first | (apply bf_; assumption) | (apply bh_; assumption) | (apply bs_; assumption) | (apply bt_; assumption)); intro hb; try simp only [hb])
   | ((first | (apply aF_; assumption) | (apply aE_; assumption) | (apply aP_; assumption) | (apply aO_; assumption)); intro hb; try simp only [hb])
   | ((first | apply aH_ | apply aM_ | apply an_ | apply ap_) <;> intro hb <;> (try simp only [hb]) <;> (first | have hp := a2_ hb | have hp := a4_ hb | have hp := a5_ hb | have hp := a3_ hb | skip)))
def c5_ (s : ByteArray) : Bool := decide (64 < (s.size : Int))
def v3_ : LC :=
 .q [.o [.f 2], .o [.m 3 0, .s 4 (.lenStr (.tmp 3)), .bk 5 .gtr false 4 64, .m 2 5], .ret]
def sW_ : LF := ⟨1, 6, v3_, [.tmp 2]⟩
theorem t8_ : as_ prog Tryz.f100 sW_ := al_
theorem g1_ (s : ByteArray)  (h : List Row) : aa_ prog 100 [.val (.string s)] h (.val (.bool (c5_ s))) := by
 refine ah_ mixed Tryz.func100 t8_ rfl rfl ?_ h
 simp (disch := omega) only [sW_, v3_, go_sem, reduceCtorEq, ↓reduceIte]
 repeat' (first
  | exact ad_ _ _
  | (refine ag_ ?_; first | rfl | (simp only [c5_, *, Bool.and_true, Bool.true_and, Bool.and_false, Bool.false_and, Bool.or_true, Bool.true_or, Bool.or_false, Bool.false_or, Bool.not_true, Bool.not_false, decide_true, decide_false, Bool.and_self, Bool.or_self]; done) | (simp [c5_, *]; done))
  | simp (disch := omega) only [go_sem, reduceEqDiff, Nat.reduceAdd, reduceLeDiff, reduceCtorEq, Int.reduceLT, Int.reduceLE, Int.reduceNeg, Int.reduceSub, Int.reduceAdd, Int.reduceToNat, ↓reduceIte]
  | ((first | (apply aF_; assumption) | (apply aE_; assumption) | (apply aP_; assumption) | (apply aO_; assumption)); intro hb; try simp only [hb])
  | ((first | apply an_ | apply ap_) <;> intro hb <;> (try simp only [hb]) <;> (first | have hp := a2_ hb | have hp := a4_ hb | have hp := a5_ hb | have hp := a3_ hb | skip)))
def c76 : LC :=
 .q [.o [.f 2], .o [.m 3 0, .s 4 (.call 70 [.tmp 3, .func 100]), .m 2 4], .ret]
def un_ : LF := ⟨1, 5, c76, [.tmp 2]⟩
theorem xj_ : as_ prog Tryz.f76 un_ := al_
theorem m8_ (xs : List ByteArray) (hx : xs.length ≤ 1048576) (h : List Row) : aa_ prog 76 [.list 0 1 (xs.map ax_)] h (.val (.bool (xs.any c5_))) := by
 refine ah_ mixed Tryz.func76 xj_ rfl rfl ?_ h
 simp (disch := omega) only [un_, c76, go_sem, reduceCtorEq, ↓reduceIte]
 repeat' (first
  | exact ad_ _ _
  | simp (disch := omega) only [go_sem, ↓reduceIte]
  | (refine aa_.call (bO_ _ c5_ 100 hx (by kernel_rfl) (fun x _ h => g1_ x h) _) ?_)
  | (refine aa_.q (bO_ _ c5_ 100 hx (by kernel_rfl) (fun x _ h => g1_ x h) _) ?_)
  | ((first | (apply aF_; assumption) | (apply aE_; assumption) | (apply aP_; assumption) | (apply aO_; assumption)); intro hb; try simp only [hb])
  | ((first | apply an_ | apply ap_) <;> intro hb <;> (try simp only [hb]) <;> (first | have hp := a2_ hb | have hp := a4_ hb | have hp := a5_ hb | have hp := a3_ hb | skip)))
theorem m9_ (s t : ByteArray) {H : List Row} (hl : H[1]? = some ⟨9, 1, [[.val (.string s)], [.val (.string t)]]⟩) : aa_ prog 76 [.own 1 2] H (.val (.bool (c5_ s || c5_ t))) := by
 have : aa_ prog 76 [.own 1 2] H (.val (.bool ([s, t].any c5_))) := AW.frozen (n := 2) (m8_ [s, t] (by simp)) (eZ_ (hL_ (n := 0) hl rfl (by simp [AV.flat])))
 simpa using this
theorem kz_ (x : ab_) : ab_.cells x = [.val (.string x.Name), .list 0 1 (x.Subs.map ax_), .val (.bool x.Had), .val (.string x.Was), .val (.bool x.Has), .val (.string x.Is)] := rfl
def cE_ (x : ab_) : Bool := dN_ x.Name x.Subs && !(c5_ x.Was || c5_ x.Is) && !(!x.Had && !decide (x.Was = txt [])) && !(!x.Has && !decide (x.Is = txt [])) && !(decide (x.Had = x.Has) && decide (x.Was = x.Is))
def c47 : LC :=
 .q [.o [.bx 1 53 0, .f 2], .q [.o [.fa 3 0 1, .ln 4 3, .fa 5 1 1, .ln 6 5, .c2 7 75 4 6, .nt 8 7, .m 9 8, .gf 10 9 false 3 1, .gn 11 9 false 10, .gf 12 9 false 5 1, .gn 13 9 false 12, .g 14 9 false (.buildSlice 9 1
 (.string ⟨#[]⟩) 2 [(0, .tmp 11), (1, .tmp 13)]), .gc 15 9 false 76 14, .pt 16 9 15, .m 17 16, .gf 18 17 false 2 1, .gn 19 17 false 18, .gu 20 17 false 19, .gm 21 17 false 20, .gf 22 21 true 3 1, .gn 23 21 true 22, .g 24
 21 true (.bin .neq false (.tmp 23) (.const (.string ⟨#[]⟩))), .g 25 17 false (.pick (.tmp 21) (.tmp 24) (.const (.bool false))), .pt 26 17 25, .m 27 26, .gf 28 27 false 4 1, .gn 29 27 false 28, .gu 30 27 false 29, .gm 31
 27 false 30, .gf 32 31 true 5 1, .gn 33 31 true 32, .g 34 31 true (.bin .neq false (.tmp 33) (.const (.string ⟨#[]⟩))), .g 35 27 false (.pick (.tmp 31) (.tmp 34) (.const (.bool false))), .pt 36 27 35], .k 36 (.q [.o [.f
 2], .ret]) .skip], .o [.fa 37 2 1, .ln 38 37, .fa 39 4 1, .ln 40 39, .bb 41 .neq true 38 40, .m 42 41, .gf 43 42 false 3 1, .gn 44 42 false 43, .gf 45 42 false 5 1, .gn 46 42 false 45, .g 47 42 false (.bin .neq false
 (.tmp 44) (.tmp 46)), .pt 48 42 47, .m 2 48], .ret]
def vi_ : LF := ⟨1, 49, c47, [.tmp 2]⟩
theorem xz_ : as_ prog Tryz.f47 vi_ := al_
theorem dZ_ (x : ab_) (hx : ab_.sz x ≤ 1048576) (h : List Row) : aa_ prog 47 [.agg (ab_.cells x)] h (.val (.bool (cE_ x))) := by
 refine ah_ mixed Tryz.func47 xz_ rfl rfl ?_ h
 have h1 := ab_.sz_Name hx
 have h2 := bq_ (ab_.sz_Subs hx)
 simp (disch := omega) only [vi_, c47, ab_.cells, go_sem, reduceEqDiff, Nat.reduceAdd, ↓reduceIte]
 repeat' (first
  | exact ad_ _ _
  | (refine ag_ ?_; first | rfl | (simp only [cE_, *, Bool.true_and, Bool.and_false, Bool.false_and, Bool.not_true, Bool.not_false, decide_true, Bool.and_self]; done) | (simp [cE_, *]; done))
  | simp (disch := omega) only [go_sem, reduceEqDiff, ↓reduceIte]
  | (refine aa_.call (el_ x.Name x.Subs h1 h2 _) ?_)
  | (refine aa_.q (el_ x.Name x.Subs h1 h2 _) ?_)
  | (refine aa_.call (m9_ x.Was x.Is rfl) ?_)
  | (refine aa_.q (m9_ x.Was x.Is rfl) ?_)
  | ((first | (apply bf_; assumption) | (apply bh_; assumption) | (apply bs_; assumption) | (apply bt_; assumption)); intro hb; try simp only [hb])
  | ((first | (apply aF_; assumption) | (apply aE_; assumption) | (apply aP_; assumption) | (apply aO_; assumption)); intro hb; try simp only [hb])
  | ((first | apply aH_ | apply aM_ | apply an_ | apply ap_) <;> intro hb <;> (try simp only [hb]) <;> (first | have hp := a2_ hb | have hp := a4_ hb | have hp := a5_ hb | have hp := a3_ hb | skip)))
def je_ (a b : ab_) : Bool := fQ_ a.Name.data.toList (bss a.Subs) b.Name.data.toList (bss b.Subs)
def cs_ : Option ab_ → List ab_ → Bool
 | _, [] => true
 | p, x :: r => cE_ x && (match p with | some q => je_ q x | none => true) && cs_ (some x) r
def ev_ (ns : List ab_) (k : Nat) : Option ab_ := if 0 < k then ns[k - 1]? else none
theorem i2_ {ns : List ab_} {k : Nat} (h0 : 0 < k) (h : k - 1 < ns.length) : ev_ ns k = some ns[k - 1] := by unfold ev_; rw [if_pos h0, getElem?_eq_getElem h]
theorem l0_ (ns : List ab_) {k : Nat} (hlt : k < ns.length) : cs_ (ev_ ns k) (ns.drop k) = (cE_ ns[k] && (match ev_ ns k with | some q => je_ q ns[k] | none => true) && cs_ (ev_ ns (k + 1)) (ns.drop (k + 1))) := by
 rw [drop_eq_getElem_cons hlt, i2_ (Nat.succ_pos k) (by simpa using hlt)]; rfl
theorem kH_ (p : Option ab_) : cs_ p [] = true := by cases p <;> rfl
def bl_ (l : List ab_) : Bool := cs_ none l && decide ((l.length : Int) ≤ 240)
theorem lT_ (a b : ab_) : decide (0 ≤ lk_ a.Name.data.toList (bss a.Subs) b.Name.data.toList (bss b.Subs)) = !je_ a b := rW_ _ _ _ _
def c23 : LC :=
 .q [.o [.f 2], .q [.o [.m 5 0, .ll 6 5, .ki 7 0], .block 0 (.loop (.q [.o [.bb 8 .lss false 7 6], .k 8 .skip (.exit 0), .block 1 (.q [.o [.m 9 7, .ia 10 6 5 7, .ld 11 6 10, .s 4 (.alloc 53 (.agg #[.string ⟨#[]⟩, .slice
 none 0 0, .bool false, .string ⟨#[]⟩, .bool false, .string ⟨#[]⟩])), .m 3 9, .st 6 4 11], .dops [.ld 12 6 4, .c1 13 47 12, .nt 14 13, .m 15 14, .gm 16 15 false 3, .g 17 15 false (.bin .gtr false (.tmp 16) (.const (.int
 .i64 0))), .gm 18 15 false 17, .gm 19 18 true 0, .gm 20 18 true 3, .g 21 18 true (.bin .sub false (.tmp 20) (.const (.int .i64 1))), .g 22 18 true (.indexAddr 6 (.tmp 19) (.tmp 21)), .gf 23 18 true 0 22, .gn 24 18 true
 23, .gm 25 18 true 0, .gm 26 18 true 3, .g 27 18 true (.bin .sub false (.tmp 26) (.const (.int .i64 1))), .g 28 18 true (.indexAddr 6 (.tmp 25) (.tmp 27)), .gf 29 18 true 1 28, .gn 30 18 true 29, .gf 31 18 true 0 4, .gn
 32 18 true 31, .gf 33 18 true 1 4, .gn 34 18 true 33, .g 35 18 true (.call 48 [.tmp 24, .tmp 30, .tmp 32, .tmp 34]), .g 36 18 true (.bin .geq false (.tmp 35) (.const (.int .i64 0))), .g 37 15 false (.pick (.tmp 18) (.tmp
 36) (.const (.bool false))), .pt 38 15 37], .k 38 (.q [.o [.f 2], .ret]) .skip]), .o [.bk 39 .add false 7 1, .m 7 39]]))], .o [.m 40 0, .ll 41 40, .bk 42 .leq false 41 240, .m 2 42], .ret]
def vX_ : LF := ⟨1, 43, c23, [.tmp 2]⟩
theorem xK_ : as_ prog Tryz.f23 vX_ := al_
def c18 : LC :=
 .q [.o [.f 2], .q [.o [.ki 3 0], .block 0 (.loop (.q [.q [.o [.m 5 3, .m 6 0, .ll 7 6, .bb 8 .lss false 5 7, .m 9 8, .gm 10 9 true 3, .g 11 9 true (.bin .leq false (.tmp 10) (.const (.int .i64 240))), .pf 12 9 11], .k 12
 .skip (.exit 0)], .block 1 (.q [.o [.m 15 0, .m 16 3, .ia 17 6 15 16, .ld 18 6 17, .s 4 (.alloc 53 (.agg #[.string ⟨#[]⟩, .slice none 0 0, .bool false, .string ⟨#[]⟩, .bool false, .string ⟨#[]⟩])), .st 6 4 18], .q [.dops
 [.fa 19 0 4, .ln 20 19, .fa 21 1 4, .ln 22 21, .c2 23 36 20 22, .nt 24 23, .m 25 24, .gm 26 25 false 3, .g 27 25 false (.bin .gtr false (.tmp 26) (.const (.int .i64 0))), .gm 28 25 false 27, .gm 29 28 true 0, .gm 30 28
 true 3, .g 31 28 true (.bin .sub false (.tmp 30) (.const (.int .i64 1))), .g 32 28 true (.indexAddr 6 (.tmp 29) (.tmp 31)), .gf 33 28 true 0 32, .gn 34 28 true 33, .gm 35 28 true 0, .gm 36 28 true 3, .g 37 28 true (.bin
 .sub false (.tmp 36) (.const (.int .i64 1))), .g 38 28 true (.indexAddr 6 (.tmp 35) (.tmp 37)), .gf 39 28 true 1 38, .gn 40 28 true 39, .gf 41 28 true 0 4, .gn 42 28 true 41, .gf 43 28 true 1 4, .gn 44 28 true 43, .g 45
 28 true (.call 37 [.tmp 34, .tmp 40, .tmp 42, .tmp 44]), .gu 46 28 true 45, .g 47 25 false (.pick (.tmp 28) (.tmp 46) (.const (.bool false))), .pt 48 25 47, .m 49 48, .gf 50 49 false 3 4, .gn 51 49 false 50, .g 52 49
 false (.lenStr (.tmp 51)), .g 53 49 false (.bin .gtr false (.tmp 52) (.const (.int .i64 64))), .pt 54 49 53, .m 55 54, .gf 56 55 false 5 4, .gn 57 55 false 56, .g 58 55 false (.lenStr (.tmp 57)), .g 59 55 false (.bin
 .gtr false (.tmp 58) (.const (.int .i64 64))), .pt 60 55 59], .k 60 (.q [.o [.f 2], .ret]) .skip], .o [.fa 61 2 4, .ln 62 61, .nt 63 62, .m 64 63, .gf 65 64 true 3 4, .gn 66 64 true 65, .g 67 64 true (.bin .neq false
 (.tmp 66) (.const (.string ⟨#[]⟩))), .pf 68 64 67, .m 69 68, .gf 70 69 false 4 4, .gn 71 69 false 70, .gu 72 69 false 71, .gm 73 69 false 72, .gf 74 73 true 5 4, .gn 75 73 true 74, .g 76 73 true (.bin .neq false (.tmp
 75) (.const (.string ⟨#[]⟩))), .g 77 69 false (.pick (.tmp 73) (.tmp 76) (.const (.bool false))), .pt 78 69 77, .m 79 78, .gf 80 79 false 2 4, .gn 81 79 false 80, .gf 82 79 false 4 4, .gn 83 79 false 82, .g 84 79 false
 (.bin .eql true (.tmp 81) (.tmp 83)), .gm 85 79 false 84, .gf 86 85 true 3 4, .gn 87 85 true 86, .gf 88 85 true 5 4, .gn 89 85 true 88, .g 90 85 true (.bin .eql false (.tmp 87) (.tmp 89)), .g 91 79 false (.pick (.tmp 85)
 (.tmp 90) (.const (.bool false))), .pt 92 79 91], .k 92 (.q [.o [.f 2], .ret]) .skip]), .o [.m 13 3, .bk 14 .add false 13 1, .m 3 14]]))], .o [.m 93 0, .ll 94 93, .bk 95 .leq false 94 240, .m 2 95], .ret]
def vC_ : LF := ⟨1, 96, c18, [.tmp 2]⟩
theorem wZ_ : as_ prog Tryz.f18 vC_ := al_
theorem cU_ (l : List ab_) (hl : ar_ ab_.sz l ≤ 1048576) (h : List Row) : aa_ prog 23 [.list 0 6 (l.map ab_.cells)] h (.val (.bool (bl_ l))) := by
 refine ah_ mixed Tryz.func23 xK_ rfl rfl ?_ h
 have hlen := bq_ hl
 have hm : ∀ x ∈ l, ab_.sz x ≤ 1048576 := fun x hx => l1_ hl hx
 simp (disch := omega) only [vX_, c23, go_sem, reduceCtorEq, ↓reduceIte]
 refine aJ_ (fun n t h => ∃ k : Nat, t 0 = .list 0 6 (l.map ab_.cells) ∧ t 5 = .list 0 6 (l.map ab_.cells) ∧ t 6 = .val (.int .i64 l.length) ∧ t 7 = .val (.int .i64 k) ∧ n = l.length - k ∧ k ≤ l.length ∧ cs_ none l = cs_ (ev_ l k) (l.drop k)) l.length ⟨0, rfl, rfl, rfl, rfl, rfl, Nat.zero_le _, rfl⟩ ?_
 rintro J hJ n t h ⟨k, t0, t5, t6, t7, rfl, hk, hS⟩
 by_cases hlt : k < l.length
 case neg =>
  skip
  have e1 : cs_ none l = true := by rw [hS, drop_eq_nil_of_le (by omega), kH_]
  simp (disch := omega) only [t0, t6, t7, hlt, go_sem, reduceCtorEq, ↓reduceIte]
  exact ag_ (by rw [bl_, e1, Bool.true_and])
 have hb := hm _ (getElem_mem hlt)
 have hb1 := ab_.sz_Name hb
 have hb2 := ab_.sz_Subs hb
 have hb3 := bq_ hb2
 rw [l0_ _ hlt] at hS
 have hnx : ∀ t' : Nat → AV, t' 0 = t 0 → t' 5 = t 5 → t' 6 = t 6 → t' 7 = .val (.int .i64 (k + 1 : Nat)) → ∀ h', cs_ none l = cs_ (ev_ l (k + 1)) (l.drop (k + 1)) → ∃ m, m < l.length - k ∧ J m t' h' := fun t' e0 e5 e6 e7 h' e => ⟨l.length - (k + 1), by omega, hJ _ _ _ ⟨k + 1, e0.trans t0, e5.trans t5, e6.trans t6, e7, rfl, by omega, e⟩⟩
 skip
 by_cases hk0 : k = 0
 ·have hk0' : ((0 : Int) < (k : Int)) = False := eq_false (by omega)
  have hg : ev_ l k = none := by unfold ev_; rw [if_neg (by omega)]
  rw [hg] at hS
  clear hk0 hg
  dsimp only at hS
  simp (disch := omega) only [t5, t6, t7, hlt, kz_, go_sem, reduceEqDiff, Nat.reduceAdd, ↓reduceIte]
  repeat' (first
   | exact ad_ _ _
   | (refine ag_ ?_; rw [bl_, hS]; simp only [*, Bool.and_true, Bool.false_and]; done)
   | (refine hnx _ (by simp [upd]) (by simp [upd]) (by simp [upd]) (by simp [upd]) _ ?_; rw [hS]; simp only [*, Bool.true_and, Bool.and_self]; done)
   | (refine hnx _ (by simp [upd]) (by simp [upd]) (by simp [upd]) (by simp [upd]) _ ?_; rw [hS]; simp [*]; done)
   | simp (disch := omega) only [t7, hk0', go_sem, reduceEqDiff, ↓reduceIte]
   | (refine aa_.call (dZ_ l[k] hb _) ?_)
   | (refine aa_.q (dZ_ l[k] hb _) ?_)
   | ((first | (apply aF_; assumption) | (apply aE_; assumption) | (apply aP_; assumption) | (apply aO_; assumption)); intro hb; try simp only [hb])
   | ((first | (apply dG_; assumption) | (apply du_; assumption) | (apply er_; assumption) | (apply ex_; assumption)); intro hb; try simp only [hb])
   | ((first | apply an_ | apply ap_ | apply bV_ | apply cf_) <;> intro hb <;> (try simp only [hb]) <;> (first | have hp := a2_ hb | have hp := a4_ hb | have hp := a5_ hb | have hp := a3_ hb | skip)))
 ·have hk0' : ((0 : Int) < (k : Int)) = True := eq_true (by omega)
  have hkp : ((k : Int) - 1) = ((k - 1 : Nat) : Int) := by omega
  have hkl : k - 1 < l.length := by omega
  have hc := hm _ (getElem_mem hkl)
  have hc2 := ab_.sz_Subs hc
  have hlt' := lT_ l[k - 1] l[k]
  rw [i2_ (by omega) hkl] at hS
  clear hk0
  dsimp only at hS
  simp (disch := omega) only [t5, t6, t7, hlt, kz_, go_sem, reduceEqDiff, Nat.reduceAdd, ↓reduceIte]
  repeat' (first
   | exact ad_ _ _
   | (refine ag_ ?_; rw [bl_, hS]; simp only [*, Bool.and_false, Bool.false_and]; done)
   | (refine hnx _ (by simp [upd]) (by simp [upd]) (by simp [upd]) (by simp [upd]) _ ?_; rw [hS]; simp only [*, Bool.true_and, Bool.and_self]; done)
   | (refine hnx _ (by simp [upd]) (by simp [upd]) (by simp [upd]) (by simp [upd]) _ ?_; rw [hS]; simp [*]; done)
   | simp (disch := omega) only [t0, t7, hk0', hkp, hlt', go_sem, reduceEqDiff, reduceCtorEq, ↓reduceIte]
   | (refine aa_.call (dZ_ l[k] hb _) ?_)
   | (refine aa_.q (dZ_ l[k] hb _) ?_)
   | (refine aa_.call (eg_ _ _ _ _ hc2 hb2 _) ?_)
   | (refine aa_.q (eg_ _ _ _ _ hc2 hb2 _) ?_)
   | ((first | (apply aF_; assumption) | (apply aE_; assumption) | (apply aP_; assumption) | (apply aO_; assumption)); intro hb; try simp only [hb])
   | ((first | (apply dG_; assumption) | (apply du_; assumption) | (apply er_; assumption) | (apply ex_; assumption)); intro hb; try simp only [hb])
   | ((first | apply an_ | apply ap_ | apply bV_ | apply cf_) <;> intro hb <;> (try simp only [hb]) <;> (first | have hp := a2_ hb | have hp := a4_ hb | have hp := a5_ hb | have hp := a3_ hb | skip)))
theorem c0_ (l : List ab_) (hl : ar_ ab_.sz l ≤ 1048576) (h : List Row) : aa_ prog 18 [.list 0 6 (l.map ab_.cells)] h (.val (.bool (bl_ l))) := by
 refine ah_ mixed Tryz.func18 wZ_ rfl rfl ?_ h
 have hlen := bq_ hl
 have hm : ∀ x ∈ l, ab_.sz x ≤ 1048576 := fun x hx => l1_ hl hx
 simp (disch := omega) only [vC_, c18, go_sem]
 refine aJ_ (fun n t h => ∃ k : Nat, t 0 = .list 0 6 (l.map ab_.cells) ∧ t 3 = .val (.int .i64 k) ∧ n = l.length - k ∧ k ≤ l.length ∧ cs_ none l = cs_ (ev_ l k) (l.drop k)) l.length ⟨0, rfl, rfl, rfl, Nat.zero_le _, rfl⟩ ?_
 rintro J hJ n t h ⟨k, t0, t3, rfl, hk, hS⟩
 by_cases hlt : k < l.length
 case neg =>
  skip
  have e1 : cs_ none l = true := by rw [hS, drop_eq_nil_of_le (by omega), kH_]
  simp (disch := omega) only [t0, t3, hlt, go_sem, reduceEqDiff, reduceCtorEq, ↓reduceIte]
  exact ag_ (by rw [bl_, e1, Bool.true_and])
 have hb := hm _ (getElem_mem hlt)
 have hb1 := ab_.sz_Name hb
 have hb2 := ab_.sz_Subs hb
 have hb3 := bq_ hb2
 rw [l0_ _ hlt] at hS
 have hnx : ∀ t' : Nat → AV, t' 0 = t 0 → t' 3 = .val (.int .i64 (k + 1 : Nat)) → ∀ h', cs_ none l = cs_ (ev_ l (k + 1)) (l.drop (k + 1)) → ∃ m, m < l.length - k ∧ J m t' h' := fun t' e0 e3 h' e => ⟨l.length - (k + 1), by omega, hJ _ _ _ ⟨k + 1, e0.trans t0, e3, rfl, by omega, e⟩⟩
 by_cases hov : (k : Int) ≤ 240
 case neg =>
  have hov' : ((k : Int) ≤ 240) = False := eq_false hov
  simp (disch := omega) only [t0, t3, hlt, hov', go_sem, reduceEqDiff, reduceCtorEq, ↓reduceIte]
  have hq : decide ((l.length : Int) ≤ 240) = false := decide_eq_false (by omega)
  exact ag_ (by rw [bl_, hq, Bool.and_false])
 have hov' : ((k : Int) ≤ 240) = True := eq_true hov
 by_cases hk0 : k = 0
 ·have hk0' : ((0 : Int) < (k : Int)) = False := eq_false (by omega)
  have hg : ev_ l k = none := by unfold ev_; rw [if_neg (by omega)]
  rw [hg] at hS
  clear hk0 hg
  dsimp only at hS
  simp (disch := omega) only [t0, t3, hlt, kz_, hov', go_sem, reduceEqDiff, Nat.reduceAdd, reduceCtorEq, ↓reduceIte]
  repeat' (first
   | exact ad_ _ _
   | (refine ag_ ?_; rw [bl_, hS]; simp only [cE_, c5_, *, Bool.and_true, Bool.true_and, Bool.and_false, Bool.false_and, Bool.or_true, Bool.true_or, Bool.not_true, Bool.not_false, decide_true, decide_false, Bool.and_self, Bool.or_self]; done)
   | (refine hnx _ (by simp [upd]) (by simp [upd]) _ ?_; rw [hS]; simp only [cE_, c5_, *, Bool.and_true, Bool.true_and, Bool.and_false, Bool.false_and, Bool.not_true, Bool.not_false, decide_true, decide_false, Bool.and_self, Bool.or_self]; done)
   | (refine hnx _ (by simp [upd]) (by simp [upd]) _ ?_; rw [hS]; simp [cE_, c5_, *]; done)
   | simp (disch := omega) only [t3, hk0', go_sem, reduceEqDiff, ↓reduceIte]
   | (refine aa_.call (cX_ l[k].Name l[k].Subs hb1 hb3 _) ?_)
   | (refine aa_.q (cX_ l[k].Name l[k].Subs hb1 hb3 _) ?_)
   | ((first | (apply bf_; assumption) | (apply bh_; assumption) | (apply bs_; assumption) | (apply bt_; assumption)); intro hb; try simp only [hb])
   | ((first | (apply aF_; assumption) | (apply aE_; assumption) | (apply aP_; assumption) | (apply aO_; assumption)); intro hb; try simp only [hb])
   | ((first | (apply dG_; assumption) | (apply du_; assumption) | (apply er_; assumption) | (apply ex_; assumption)); intro hb; try simp only [hb])
   | ((first | apply aH_ | apply aM_ | apply an_ | apply ap_ | apply bV_ | apply cf_) <;> intro hb <;> (try simp only [hb]) <;> (first | have hp := a2_ hb | have hp := a4_ hb | have hp := a5_ hb | have hp := a3_ hb | skip)))
 ·have hk0' : ((0 : Int) < (k : Int)) = True := eq_true (by omega)
  have hkp : ((k : Int) - 1) = ((k - 1 : Nat) : Int) := by omega
  have hkl : k - 1 < l.length := by omega
  have hc := hm _ (getElem_mem hkl)
  have hc2 := ab_.sz_Subs hc
  have hlt' := lT_ l[k - 1] l[k]
  rw [i2_ (by omega) hkl] at hS
  clear hk0
  dsimp only at hS
  simp (disch := omega) only [t0, t3, hlt, kz_, hov', go_sem, reduceEqDiff, Nat.reduceAdd, reduceCtorEq, ↓reduceIte]
  repeat' (first
   | exact ad_ _ _
   | (refine ag_ ?_; rw [bl_, hS]; simp only [cE_, c5_, je_, *, Bool.and_true, Bool.true_and, Bool.and_false, Bool.false_and, Bool.or_true, Bool.true_or, Bool.not_true, Bool.not_false, decide_true, decide_false, Bool.and_self, Bool.or_self]; done)
   | (refine hnx _ (by simp [upd]) (by simp [upd]) _ ?_; rw [hS]; simp only [cE_, c5_, je_, *, Bool.and_true, Bool.true_and, Bool.and_false, Bool.false_and, Bool.not_true, Bool.not_false, decide_true, decide_false, Bool.and_self, Bool.or_self]; done)
   | (refine hnx _ (by simp [upd]) (by simp [upd]) _ ?_; rw [hS]; simp [cE_, c5_, je_, *]; done)
   | simp (disch := omega) only [t0, t3, hk0', hkp, go_sem, reduceEqDiff, reduceCtorEq, ↓reduceIte]
   | (refine aa_.call (cX_ l[k].Name l[k].Subs hb1 hb3 _) ?_)
   | (refine aa_.q (cX_ l[k].Name l[k].Subs hb1 hb3 _) ?_)
   | (refine aa_.call (g6_ _ _ _ _ hc2 hb2 _) ?_)
   | (refine aa_.q (g6_ _ _ _ _ hc2 hb2 _) ?_)
   | ((first | (apply bf_; assumption) | (apply bh_; assumption) | (apply bs_; assumption) | (apply bt_; assumption)); intro hb; try simp only [hb])
   | ((first | (apply aF_; assumption) | (apply aE_; assumption) | (apply aP_; assumption) | (apply aO_; assumption)); intro hb; try simp only [hb])
   | ((first | (apply dG_; assumption) | (apply du_; assumption) | (apply er_; assumption) | (apply ex_; assumption)); intro hb; try simp only [hb])
   | ((first | apply aH_ | apply aM_ | apply an_ | apply ap_ | apply bV_ | apply cf_) <;> intro hb <;> (try simp only [hb]) <;> (first | have hp := a2_ hb | have hp := a4_ hb | have hp := a5_ hb | have hp := a3_ hb | skip)))
theorem e3_ (l : List UInt8) : (shB l).length = l.length + 1 := rfl
theorem fz_ (b : UInt8) : [b].length = 1 := rfl
theorem jA_ (s : ByteArray) (hs : s.size ≤ 1048576) (h : List Row) : aa_ prog 83 [.val (.string s)] h (.val (.string (txt (shB s.data.toList)))) := by
 have := f6_ s.data.toList (by rw [c1_]; exact hs) h
 rwa [eN_] at this
theorem iy_ (s : ByteArray) (hs : s.size ≤ 1048576) (h : List Row) : aa_ prog 65 [.val (.string s)] h (.val (.string (txt (shB s.data.toList)))) := by
 have := fg_ s.data.toList (by rw [c1_]; exact hs) h
 rwa [eN_] at this
def pg_ (x : ab_) : Nat := (if x.Had then 1 else 0) + (if x.Has then 2 else 0)
def ph_ (x : ab_) : List UInt8 := (if x.Had then shB x.Was.data.toList else []) ++ (if x.Has then shB x.Is.data.toList else [])
def hs_ (x : ab_) : List UInt8 := shB (gA_ x.Name x.Subs) ++ [UInt8.ofNat (pg_ x)] ++ ph_ x
def e0_ (l : List ab_) : List UInt8 := UInt8.ofNat l.length :: l.flatMap hs_
theorem em_ (n : Nat) (hn : n ≤ 9223372036854775807) (h : List Row) : aa_ prog 82 [.val (.int .i64 n), .val (.int .i64 1)] h (.val (.string (txt [UInt8.ofNat n]))) := dI_ n 1 hn (by omega) h
def c86 : LC :=
 .q [.o [.ki 2 0], .o [.m 3 0, .ll 4 3, .m 2 4], .ret]
def wc_ : LF := ⟨1, 5, c86, [.tmp 2]⟩
theorem xG_ : as_ prog Tryz.f86 wc_ := al_
theorem gH_ (xs : List ab_)  (h : List Row) : aa_ prog 86 [.list 0 6 (xs.map ab_.cells)] h (.val (.int .i64 xs.length)) := by
 refine ah_ mixed Tryz.func86 xG_ rfl rfl ?_ h
 simp (disch := omega) only [wc_, c86, go_sem, reduceCtorEq, ↓reduceIte]
 repeat' (first
  | exact ad_ _ _
  | simp (disch := omega) only [go_sem, reduceEqDiff, Nat.reduceAdd, reduceLeDiff, reduceCtorEq, Int.reduceLT, Int.reduceLE, Int.reduceNeg, Int.reduceSub, Int.reduceAdd, Int.reduceToNat, ↓reduceIte]
  | ((first | (apply aF_; assumption) | (apply aE_; assumption) | (apply aP_; assumption) | (apply aO_; assumption)); intro hb; try simp only [hb])
  | ((first | apply an_ | apply ap_) <;> intro hb <;> (try simp only [hb]) <;> (first | have hp := a2_ hb | have hp := a4_ hb | have hp := a5_ hb | have hp := a3_ hb | skip)))
def c87 : LC :=
 .q [.o [.bx 1 53 0, .s 2 (.mov (.const (.string ⟨#[]⟩)))], .o [.ki 3 0, .s 4 (.mov (.const (.string ⟨#[]⟩)))], .q [.o [.fa 5 2 1, .ln 6 5], .k 6 (.o [.m 7 3, .bk 8 .add false 7 1, .m 9 4, .fa 10 3 1, .ln 11 10, .c1 12 83
 11, .bb 13 .add false 9 12, .m 3 8, .m 4 13]) .skip], .q [.o [.fa 14 4 1, .ln 15 14], .k 15 (.o [.m 16 3, .bk 17 .add false 16 2, .m 18 4, .fa 19 5 1, .ln 20 19, .c1 21 83 20, .bb 22 .add false 18 21, .m 3 17, .m 4 22])
 .skip], .o [.fa 23 0 1, .ln 24 23, .fa 25 1 1, .ln 26 25, .c2 27 106 24 26, .c1 28 83 27, .m 29 3, .s 30 (.call 82 [.tmp 29, .const (.int .i64 1)]), .bb 31 .add false 28 30, .m 32 4, .bb 33 .add false 31 32, .m 2 33],
 .ret]
def u5_ : LF := ⟨1, 34, c87, [.tmp 2]⟩
theorem xl_ : as_ prog Tryz.f87 u5_ := al_
theorem jH_ (x : ab_) (h1 : x.Name.size ≤ 1048576) (h2 : x.Subs.length ≤ 1048576) (h3 : x.Was.size ≤ 64) (h4 : x.Is.size ≤ 64) (h : List Row) : aa_ prog 87 [.agg (ab_.cells x)] h (.val (.string (txt (hs_ x)))) := by
 refine ah_ mixed Tryz.func87 xl_ rfl rfl ?_ h
 have hk := j5_ x.Name x.Subs
 have hw : x.Was.data.toList.length ≤ 64 := by rw [c1_]; exact h3
 have hi : x.Is.data.toList.length ≤ 64 := by rw [c1_]; exact h4
 cases e1 : x.Had <;> cases e2 : x.Has
 all_goals
  simp (disch := omega) only [u5_, c87, ab_.cells, e1, e2, go_sem, reduceEqDiff, Nat.reduceAdd, Int.reduceAdd, ↓reduceIte]
  repeat' (first
   | (refine aa_.call (jA_ x.Was (by omega) _) ?_)
   | (refine aa_.call (jA_ x.Is (by omega) _) ?_)
   | (refine aa_.call (me_ x.Name x.Subs h1 h2 _) ?_)
   | (refine aa_.call (f6_ (gA_ x.Name x.Subs) (by omega) _) ?_)
   | (refine aa_.call (em_ 0 (by omega) _) ?_)
   | (refine aa_.call (em_ 1 (by omega) _) ?_)
   | (refine aa_.call (em_ 2 (by omega) _) ?_)
   | (refine aa_.call (em_ 3 (by omega) _) ?_)
   | exact aG_ (by simp [hs_, pg_, ph_, e1, e2])
   | simp (disch := (first | omega | (simp only [la_, lc_, ln_, e3_]; omega))) only [bv_, az_, go_sem, reduceEqDiff, Int.reduceAdd, ↓reduceIte])
theorem gQ_ {l : List ab_} (h : bl_ l = true) : l.length ≤ 240 ∧ ∀ x ∈ l, x.Name.size ≤ 8 ∧ x.Subs.length ≤ 4 ∧ x.Was.size ≤ 64 ∧ x.Is.size ≤ 64 := by
 simp only [bl_, Bool.and_eq_true, decide_eq_true_eq] at h
 refine ⟨by omega, ?_⟩
 have go : ∀ (l : List ab_) (p : Option ab_), cs_ p l = true → ∀ x ∈ l, cE_ x = true := by
  intro l
  induction l with
  | nil => intro p _ x hx; cases hx
  | cons a r ih =>
   intro p hp x hx
   have hp2 : cE_ a = true ∧ cs_ (some a) r = true := by
    cases p <;> simp only [cs_, Bool.and_eq_true] at hp <;> exact ⟨hp.1.1, hp.2⟩
   rcases mem_cons.1 hx with rfl | hx
   ·exact hp2.1
   ·exact ih _ hp2.2 x hx
 intro x hx
 have q := go l none h.1 x hx
 simp only [cE_, Bool.and_eq_true, Bool.not_eq_true', Bool.or_eq_false_iff, c5_, decide_eq_false_iff_not] at q
 obtain ⟨⟨⟨⟨q1, q2, q3⟩, _⟩, _⟩, _⟩ := q
 have q4 := gj_ q1
 simp only [dN_, Bool.and_eq_true] at q1
 obtain ⟨q5, _⟩ := gt_ q1.2
 exact ⟨q4, by omega, by omega, by omega⟩
theorem mY_ {x : ab_} (h3 : x.Was.size ≤ 64) (h4 : x.Is.size ≤ 64) : (hs_ x).length ≤ 400 := by
 have hk := j5_ x.Name x.Subs
 have hw := c1_ x.Was
 have hi := c1_ x.Is
 simp only [hs_, ph_, la_, e3_, length_singleton]
 cases x.Had <;> cases x.Has <;> simp [e3_] <;> omega
theorem iM_ {l : List ab_} (h : ∀ x ∈ l, x.Was.size ≤ 64 ∧ x.Is.size ≤ 64) : (l.flatMap hs_).length ≤ 400 * l.length := by
 induction l with
 | nil => simp
 | cons a r ih =>
  have h1 := mY_ (h a (mem_cons_self ..)).1 (h a (mem_cons_self ..)).2
  have h2 := ih fun x hx => h x (mem_cons_of_mem _ hx)
  simp only [flatMap_cons, la_, lc_] at *
  omega
theorem jM_ {l : List ab_} (h : bl_ l = true) : (e0_ l).length ≤ 100000 := by
 obtain ⟨h1, h2⟩ := gQ_ h
 have := iM_ fun x hx => (h2 x hx).2.2
 simp only [e0_, lc_]; omega
def c51 : LC :=
 .q [.o [.s 2 (.mov (.const (.string ⟨#[]⟩)))], .q [.o [.m 6 0, .c1 7 23 6, .nt 8 7], .k 8 (.q [.o [.s 2 (.mov (.const (.string ⟨#[]⟩)))], .ret]) .skip], .o [.s 3 (.alloc 112 (.agg #[.pointer none, .slice none 0 0]))], .o
 [.m 9 0, .c1 10 86 9, .s 11 (.call 82 [.tmp 10, .const (.int .i64 1)]), .c2 12 85 3 11], .q [.o [.m 13 0, .ll 14 13, .ki 15 0], .block 0 (.loop (.q [.o [.bb 16 .lss false 15 14], .k 16 .skip (.exit 0), .block 1 (.q [.o
 [.ia 17 6 13 15, .ld 18 6 17, .s 5 (.alloc 53 (.agg #[.string ⟨#[]⟩, .slice none 0 0, .bool false, .string ⟨#[]⟩, .bool false, .string ⟨#[]⟩])), .st 6 5 18], .o [.ld 19 6 5, .c1 20 87 19, .c2 21 85 3 20]]), .o [.bk 22
 .add false 15 1, .m 15 22]]))], .o [.c1 23 88 3, .m 2 23], .ret]
def ud_ : LF := ⟨1, 24, c51, [.tmp 2]⟩
theorem xq_ : as_ prog Tryz.f51 ud_ := al_
def c39 : LC :=
 .q [.o [.s 2 (.mov (.const (.string ⟨#[]⟩)))], .q [.o [.m 8 0, .c1 9 18 8, .nt 10 9], .k 10 (.q [.o [.s 2 (.mov (.const (.string ⟨#[]⟩)))], .ret]) .skip], .o [.m 11 0, .ll 12 11, .c1 13 64 12, .s 14 (.toBytes 5 (.tmp
 13)), .m 3 14], .q [.o [.ki 4 0], .block 0 (.loop (.q [.q [.o [.m 15 4, .m 16 0, .ll 17 16, .bb 18 .lss false 15 17], .k 18 .skip (.exit 0)], .block 1 (.q [.o [.m 21 0, .m 22 4, .ia 23 6 21 22, .ld 24 6 23, .s 5 (.alloc
 53 (.agg #[.string ⟨#[]⟩, .slice none 0 0, .bool false, .string ⟨#[]⟩, .bool false, .string ⟨#[]⟩])), .st 6 5 24], .o [.ki 6 0, .s 7 (.mov (.const (.string ⟨#[]⟩)))], .q [.o [.fa 25 2 5, .ln 26 25], .k 26 (.q [.o [.ki 6
 1], .o [.fa 27 3 5, .ln 28 27, .c1 29 65 28, .m 7 29]]) .skip], .q [.o [.fa 30 4 5, .ln 31 30], .k 31 (.q [.o [.m 32 6, .bk 33 .add false 32 2, .m 6 33], .o [.m 34 7, .fa 35 5 5, .ln 36 35, .c1 37 65 36, .bb 38 .add
 false 34 37, .m 7 38]]) .skip], .o [.m 39 3, .fa 40 0 5, .ln 41 40, .fa 42 1 5, .ln 43 42, .c2 44 66 41 43, .c1 45 65 44, .m 46 6, .c1 47 64 46, .bb 48 .add false 45 47, .m 49 7, .bb 50 .add false 48 49, .s 51 (.appendS
 5 (.tmp 39) (.tmp 50)), .m 3 51]]), .o [.m 19 4, .bk 20 .add false 19 1, .m 4 20]]))], .o [.m 52 3, .s 53 (.toStr (.tmp 52)), .m 2 53], .ret]
def uI_ : LF := ⟨1, 54, c39, [.tmp 2]⟩
theorem wK_ : as_ prog Tryz.f39 uI_ := al_
theorem jn_ (l : List ab_) (hl : ar_ ab_.sz l ≤ 1048576) (q : bl_ l = true) (h : List Row) : aa_ prog 51 [.list 0 6 (l.map ab_.cells)] h (.val (.string (txt (e0_ l)))) := by
 refine iw_ (T := 112) (e := 5) rfl rfl ?_ h
 refine j6_ (by decide) mixed Tryz.func51 xq_ rfl ?_
 obtain ⟨h4, hm⟩ := gQ_ q
 simp (disch := omega) only [ud_, c51, go_sem, reduceCtorEq, ↓reduceIte]
 refine aa_.b rfl (cU_ l hl _) ?_
 have hz : rV_ = .agg #[.pointer none, .slice none 0 0] := rfl
 simp (disch := omega) only [q, ← hz, go_sem, reduceCtorEq, ↓reduceIte]
 refine fun b => ?_
 refine aa_.b rfl (gH_ l _) ?_
 simp (disch := omega) only [go_sem, ↓reduceIte]
 refine aa_.b rfl (em_ l.length (by omega) _) ?_
 simp (disch := omega) only [go_sem, reduceEqDiff, ↓reduceIte]
 refine oO_ (by simp) (fun r => ?_)
 simp (disch := omega) only [go_sem, reduceCtorEq, ↓reduceIte]
 refine jJ_ (fun n t σ => ∃ k : Nat, t 3 = jY_ b ∧ t 13 = .list 0 6 (l.map ab_.cells) ∧ t 14 = .val (.int .i64 l.length) ∧ t 15 = .val (.int .i64 k) ∧ σ = Bd.of b (UInt8.ofNat l.length :: (l.take k).flatMap hs_) ∧ n = l.length - k ∧ k ≤ l.length) l.length ?_ ?_
 ·exact ⟨0, rfl, rfl, rfl, rfl, rfl, rfl, by omega⟩
 ·rintro J hJ n t σ ⟨k, t3, t13, t14, t15, rfl, rfl, hk⟩
  by_cases hlt : k < l.length
  ·have hmk := hm _ (getElem_mem hlt)
   have hf := iM_ (l := l.take k) fun x hx => (hm x (mem_of_mem_take hx)).2.2
   have hlt' : (l.take k).length ≤ 240 := by rw [length_take]; omega
   have hi := mY_ hmk.2.2.1 hmk.2.2.2
   simp (disch := omega) only [t13, t14, t15, hlt, ab_.cells, go_sem, reduceEqDiff, Nat.reduceAdd, ↓reduceIte]
   refine fun _ => ?_
   refine aa_.b rfl (jH_ l[k] (by omega) (by omega) hmk.2.2.1 hmk.2.2.2 _) ?_
   simp (disch := omega) only [t3, go_sem, reduceEqDiff, ↓reduceIte]
   refine oO_ (by simp only [lc_]; omega) (fun r => ?_)
   simp (disch := omega) only [t15, az_, go_sem, reduceEqDiff, ↓reduceIte]
   refine ⟨l.length - (k + 1), by omega, hJ _ _ _ ⟨k + 1, by simp [upd, t3], by simp [upd, t13], by simp [upd, t14], by simp [upd], ?_, rfl, by omega⟩⟩
   rw [take_succ_eq_append_getElem hlt, flatMap_append]
   simp
  ·simp (disch := omega) only [t3, t14, t15, hlt, go_sem, reduceEqDiff, ↓reduceIte]
   rw [take_of_length_le (by omega)]
   refine sL_ ?_
   simp (disch := omega) only [go_sem, ↓reduceIte]
   rfl
theorem f9_ (l : List ab_) (hl : ar_ ab_.sz l ≤ 1048576) (q : bl_ l = true) (h : List Row) : aa_ prog 39 [.list 0 6 (l.map ab_.cells)] h (.val (.string (txt (e0_ l)))) := by
 refine ah_ mixed Tryz.func39 wK_ rfl rfl ?_ h
 obtain ⟨h4, hm⟩ := gQ_ q
 simp (disch := omega) only [uI_, c39, go_sem, reduceCtorEq, ↓reduceIte]
 refine aa_.call (c0_ l hl _) ?_
 simp (disch := omega) only [q, go_sem, reduceCtorEq, ↓reduceIte]
 refine aa_.call (b0_ l.length _) ?_
 simp (disch := omega) only [go_sem, ↓reduceIte]
 refine ToB.own (by rw [bL_, fz_]; omega) ?_
 simp (disch := omega) only [bu_, bL_, fz_, go_sem, ↓reduceIte]
 refine aJ_ (fun m t h => ∃ (k : Nat) (acc : List UInt8) (rest : List Row), t 0 = .list 0 6 (l.map ab_.cells) ∧ t 3 = .own 0 acc.length ∧ t 4 = .val (.int .i64 k) ∧ h = ⟨.byt 5, 1, aA_ acc⟩ :: rest ∧ m = l.length - k ∧ k ≤ l.length ∧ acc = UInt8.ofNat l.length :: (l.take k).flatMap hs_) l.length ⟨0, [UInt8.ofNat l.length], _, rfl, rfl, rfl, rfl, rfl, Nat.zero_le _, rfl⟩ ?_
 rintro J hJ m t h ⟨k, acc, rest, t0, t3, t4, rfl, rfl, hk, ha⟩
 have fl := cI_ acc
 by_cases hlt : k < l.length
 ·have hmk := hm _ (getElem_mem hlt)
  obtain ⟨g1, g2, g3, g4⟩ := hmk
  have hf := iM_ (l := l.take k) fun x hx => (hm x (mem_of_mem_take hx)).2.2
  have hlt' : (l.take k).length ≤ 240 := by rw [length_take]; omega
  have hal : acc.length ≤ 100000 := by rw [ha]; simp only [lc_]; omega
  have hkb := j5_ l[k].Name l[k].Subs
  have hw : l[k].Was.data.toList.length ≤ 64 := by rw [c1_]; exact g3
  have hi : l[k].Is.data.toList.length ≤ 64 := by rw [c1_]; exact g4
  have hnx : ∀ (bs : List UInt8) t' H, bs = hs_ l[k] → t' 0 = t 0 → t' 3 = .own 0 (acc.length + bs.length) → t' 4 = .val (.int .i64 (k + 1 : Nat)) → (∃ r', H = ⟨.byt 5, 1, aA_ acc ++ aA_ bs⟩ :: r') → ∃ m, m < l.length - k ∧ J m t' H := by
   rintro bs t' H e e0 e3 e4 ⟨r', rfl⟩
   refine ⟨l.length - (k + 1), by omega, hJ _ _ _ ⟨k + 1, acc ++ bs, r', e0.trans t0, by rw [e3, la_], e4, by simp [aA_], rfl, by omega, ?_⟩⟩
   rw [e, ha, take_succ_eq_append_getElem hlt, flatMap_append]
   simp
  clear ha hf
  cases e1 : l[k].Had <;> cases e2 : l[k].Has
  all_goals
   simp (disch := omega) only [t0, t3, t4, hlt, ab_.cells, e1, e2, go_sem, reduceEqDiff, Nat.reduceAdd, reduceCtorEq, Int.reduceAdd, ↓reduceIte]
   repeat' (first
    | (refine aa_.call (iy_ l[k].Was (by omega) _) ?_)
    | (refine aa_.call (iy_ l[k].Is (by omega) _) ?_)
    | (refine aa_.call (ma_ l[k].Name l[k].Subs (by omega) (by omega) _) ?_)
    | (refine aa_.call (fg_ (gA_ l[k].Name l[k].Subs) (by omega) _) ?_)
    | (refine aa_.call (b0_ 0 _) ?_)
    | (refine aa_.call (b0_ 1 _) ?_)
    | (refine aa_.call (b0_ 2 _) ?_)
    | (refine aa_.call (b0_ 3 _) ?_)
    | (refine ⟨by simp only [e3_]; omega, hnx _ _ _ ?_ (by simp [upd, t0]) (by simp [upd]) (by simp [upd]) ⟨_, rfl⟩⟩; simp [hs_, pg_, ph_, e1, e2]; done)
    | simp (disch := omega) only [t3, t4, fl, az_, go_sem, reduceEqDiff, Int.reduceAdd, ↓reduceIte]
    | simp (disch := (simp only [la_, lc_, ln_, e3_]; omega)) only [bv_])
 ·simp (disch := omega) only [t0, t3, t4, hlt, fl, go_sem, reduceEqDiff, reduceCtorEq, ↓reduceIte]
  rw [take_of_length_le (by omega)] at ha
  subst ha
  simp (disch := omega) only [dd_, Option.map_some, go_sem]
  exact aG_ rfl
abbrev bQ_ (out : List (List UInt8)) : List (List AV) := (out.map txt).map ax_
theorem iC_ (out : List (List UInt8)) (x : List UInt8) : bQ_ out ++ [[AV.val (.string (txt x))]] = bQ_ (out ++ [x]) := by simp
theorem f5_ (out : List (List UInt8)) : ∀ e ∈ bQ_ out, e.all AV.flat = true := by
 intro e he
 obtain ⟨x, _, q⟩ := mem_map.1 he; subst q; rfl
theorem sa_ (h0 : List Row) (out : List (List UInt8)) (rest : List Row) : [AV.own h0.length out.length].mapM (AW.resolve (h0 ++ ⟨9, 1, bQ_ out⟩ :: rest) 2) = some [.list 0 1 (bQ_ out)] :=
 eZ_ (hL_ (n := 0) (r := ⟨9, 1, bQ_ out⟩) (by rw [es_]; rfl) (by simp) (f5_ out))
def he_ (i : Nat) (last : Bool) (part : List UInt8) : List UInt8 := leN i 2 ++ [UInt8.ofNat (if last then 1 else 0)] ++ shB part
def mx_ (no life i : Nat) (last : Bool) (part : List UInt8) : List UInt8 := fV_ (leN no 4 ++ leN life 4) (he_ i last part)
def cg_ (p : List UInt8) : Nat := (p.length + 107) / 108
def gR_ (no life : Nat) (p : List UInt8) (i : Nat) : List UInt8 := mx_ no life i (decide (p.length ≤ 108 * (i + 1))) ((p.drop (108 * i)).take 108)
def fk_ (no life : Nat) (p : List UInt8) : List (List UInt8) := (List.range (cg_ p)).map (gR_ no life p)
theorem i0_ (i : Nat) (last : Bool) {part : List UInt8} (h : part.length ≤ 108) : (he_ i last part).length ≤ 112 := by
 simp only [he_, la_, ce_, fz_, e3_]; omega
theorem kr_ {α : Type} (f : Nat → α) (k : Nat) : (List.range k).map f ++ [f k] = (List.range (k + 1)).map f := by rw [range_succ, map_append]; rfl
def c50 : LC :=
 .q [.o [.nl 6], .o [.s 12 (.buildSlice 9 1 (.string ⟨#[]⟩) 0 []), .m 7 12], .q [.o [.f 8], .block 0 (.loop (.q [.q [.o [.m 13 8, .nt 14 13], .k 14 .skip (.exit 0)], .block 1 (.q [.o [.m 15 2, .m 16 2, .s 17 (.lenStr
 (.tmp 16)), .s 18 (.mm false (.const (.int .i64 108)) (.tmp 17)), .s 19 (.sliceStr (.tmp 15) none (some (.tmp 18))), .m 9 19], .o [.m 20 2, .m 21 9, .s 22 (.lenStr (.tmp 21)), .s 23 (.sliceStr (.tmp 20) (some (.tmp 22))
 none), .m 2 23], .o [.m 24 2, .s 25 (.bin .eql false (.tmp 24) (.const (.string ⟨#[]⟩))), .m 8 25], .o [.ki 10 0], .q [.o [.m 26 8], .k 26 (.o [.ki 10 1]) .skip], .o [.m 27 7, .c1 28 46 27, .s 29 (.call 82 [.tmp 28,
 .const (.int .i64 2)]), .m 30 10, .s 31 (.call 82 [.tmp 30, .const (.int .i64 1)]), .bb 32 .add false 29 31, .m 33 9, .c1 34 83 33, .bb 35 .add false 32 34, .m 11 35], .o [.m 36 7, .m 37 0, .s 38 (.call 82 [.tmp 37,
 .const (.int .i64 4)]), .m 39 1, .s 40 (.call 82 [.tmp 39, .const (.int .i64 4)]), .bb 41 .add false 38 40, .m 42 11, .s 43 (.call 84 [.tmp 41, .tmp 42, .const (.int .i64 128)]), .s 44 (.buildSlice 9 1 (.string ⟨#[]⟩) 1
 [(0, .tmp 43)]), .ap 45 9 1 16 36 44, .m 7 45]])]))], .o [.m 46 7, .m 6 46], .ret]
def wu_ : LF := ⟨3, 47, c50, [.tmp 6]⟩
theorem xU_ : as_ Tryz.prog Tryz.f50 wu_ := al_
theorem kl_ (no life : Nat) (p : List UInt8) (hno : no ≤ 4000000000) (hlife : life ≤ 4000000000) (h0 : 1 ≤ p.length) (hp : p.length ≤ 100000) (h : List Row) : aa_ Tryz.prog 50 [.val (.int .i64 no), .val (.int .i64 life), .val (.string (txt p))] h (.list 0 1 (bQ_ (fk_ no life p))) := by
 refine ah_ mixed Tryz.func50 xU_ rfl rfl ?_ h
 simp (disch := omega) only [wu_, c50, go_sem, ↓reduceIte]
 refine aJ_ (fun m t h => ∃ (k : Nat) (out : List (List UInt8)) (rest : List Row), t 0 = .val (.int .i64 no) ∧ t 1 = .val (.int .i64 life) ∧ t 2 = .val (.string (txt (p.drop (108 * k)))) ∧ t 7 = .own 0 out.length ∧ t 8 = .val (.bool (decide (p.length ≤ 108 * k))) ∧ h = ⟨9, 1, bQ_ out⟩ :: rest ∧ m = cg_ p - k ∧ k ≤ cg_ p ∧ out = (List.range k).map (gR_ no life p)) (cg_ p) ⟨0, [], [], rfl, rfl, by simp [upd, eO_], rfl, by simp [upd, show p ≠ [] from fun e => by rw [e] at h0; exact absurd h0 (by decide)], rfl, rfl, Nat.zero_le _, rfl⟩ ?_
 rintro J hJ m t h ⟨k, out, rest, t0, t1, t2, t7, t8, rfl, rfl, hk, ho⟩
 have fl : (bQ_ out).length = out.length := by simp
 have hol : out.length = k := by rw [ho, length_map, length_range]
 have hn : cg_ p = (p.length + 107) / 108 := rfl
 by_cases hd : p.length ≤ 108 * k
 ·have hd' : decide (p.length ≤ 108 * k) = true := decide_eq_true hd
  rw [hd'] at t8
  have hkn : k = cg_ p := by omega
  simp (disch := omega) only [t7, t8, go_sem, reduceEqDiff, ↓reduceIte]
  rw [ho, hkn]
  exact ⟨2, hL_ (r := ⟨9, 1, bQ_ (fk_ no life p)⟩) rfl (by simp [fk_]) (f5_ _)⟩
 have hd' : decide (p.length ≤ 108 * k) = false := decide_eq_false hd
 rw [hd'] at t8
 have hkn : k < cg_ p := by omega
 have hR : (p.drop (108 * k)).length = p.length - 108 * k := length_drop
 have hmm : (if ((p.drop (108 * k)).length : Int) < 108 then ((p.drop (108 * k)).length : Int) else 108) = ((min 108 (p.drop (108 * k)).length : Nat) : Int) := by split <;> omega
 have hT : List.take (min 108 (p.drop (108 * k)).length) (p.drop (108 * k)) = (p.drop (108 * k)).take 108 := by
  rw [← take_take, take_length]
 have hX : List.drop ((p.drop (108 * k)).take 108).length (p.drop (108 * k)) = p.drop (108 * (k + 1)) := by
  rw [length_take, drop_drop]
  rcases Nat.le_total 108 (p.drop (108 * k)).length with q | q
  ·rw [Nat.min_eq_left q]; congr 1
  ·rw [Nat.min_eq_right q, drop_eq_nil_of_le (by omega), drop_eq_nil_of_le (by omega)]
 have hL : (((p.drop (108 * k)).take 108).length ≤ (p.drop (108 * k)).length) = True := eq_true (by rw [length_take]; omega)
 have hN : (txt (p.drop (108 * (k + 1))) = txt []) = (p.length ≤ 108 * (k + 1)) := by rw [oL_, drop_eq_nil_iff]
 simp (disch := omega) only [t2, t8, hmm, hT, hL, hX, hN, take_length, go_sem, reduceEqDiff, ↓reduceIte]
 have hcnt : ∀ rest' : List Row, aa_ Tryz.prog 46 [.own 0 out.length] (⟨9, 1, bQ_ out⟩ :: rest') (.val (.int .i64 out.length)) := fun rest' => by
  have := AW.frozen (n := 2) (bc_ (out.map txt)) (sa_ [] out rest')
  simpa using this
 have hpl : ((p.drop (108 * k)).take 108).length ≤ 108 := by rw [length_take]; omega
 have hst : (leN no 4 ++ leN life 4).length = 8 := by rw [la_, ce_, ce_]
 have hnl : cg_ p ≤ 1000 := by omega
 have hbody := fun last => i0_ out.length last hpl
 have hfin : ∀ (b : Bool) (t' : Nat → AV) (H : List Row), decide (p.length ≤ 108 * (k + 1)) = b → t' 0 = t 0 → t' 1 = t 1 → t' 2 = .val (.string (txt (p.drop (108 * (k + 1))))) → t' 7 = .own 0 (out.length + 1) → t' 8 = .val (.bool b) → (∃ r', H = ⟨9, 1, bQ_ out ++ [[.val (.string (txt (fV_ (leN no 4 ++ leN life 4) (he_ out.length b ((p.drop (108 * k)).take 108)))))]]⟩ :: r') → ∃ m, m < cg_ p - k ∧ J m t' H := by
  rintro b t' H e e0 e1 e2 e7 e8 ⟨r', rfl⟩
  refine ⟨cg_ p - (k + 1), by omega, hJ _ _ _ ⟨k + 1, out ++ [gR_ no life p k], r', e0.trans t0, e1.trans t1, e2, by rw [e7]; simp, by rw [e8, e], ?_, rfl, by omega, by rw [ho, kr_]⟩⟩
  rw [iC_, gR_, mx_, e, hol]
 generalize (p.drop (108 * k)).take 108 = part at *
 generalize p.drop (108 * (k + 1)) = rp at *
 clear hX hT hR hmm ho hN
 have ha1 : ∀ c : UInt8, (leN out.length 2).length + [c].length ≤ 9223372036854775807 := fun c => by rw [ce_, fz_]; omega
 have ha2 : ∀ c : UInt8, (leN out.length 2 ++ [c]).length + (shB part).length ≤ 9223372036854775807 := fun c => by rw [la_, ce_, fz_, e3_]; omega
 have ha3 : (leN no 4).length + (leN life 4).length ≤ 9223372036854775807 := by rw [ce_, ce_]; omega
 cases hb : decide (p.length ≤ 108 * (k + 1))
 all_goals
  simp (disch := omega) only [t7, go_sem, reduceEqDiff, ↓reduceIte]
  repeat' (first
   | (refine aa_.call (hcnt _) ?_)
   | (refine aa_.call (dI_ out.length 2 (by omega) (by omega) _) ?_)
   | (refine aa_.call (dI_ no 4 (by omega) (by omega) _) ?_)
   | (refine aa_.call (dI_ life 4 (by omega) (by omega) _) ?_)
   | (refine aa_.call (em_ 0 (by omega) _) ?_)
   | (refine aa_.call (em_ 1 (by omega) _) ?_)
   | (refine aa_.call (f6_ part (by omega) _) ?_)
   | (refine aa_.call (g0_ _ (he_ out.length false part) hst (hbody _) _) ?_)
   | (refine aa_.call (g0_ _ (he_ out.length true part) hst (hbody _) _) ?_)
   | (refine ⟨by omega, by omega, hfin _ _ _ hb (by simp [upd, t0]) (by simp [upd, t1]) (by simp [upd]) (by simp [upd]) (by simp [upd]) ⟨_, rfl⟩⟩)
   | simp (disch := omega) only [t0, t1, t7, fl, bv_ _ _ _ (ha1 _), bv_ _ _ _ (ha2 _), bv_ _ _ _ ha3, go_sem, reduceEqDiff, reduceLeDiff, reduceCtorEq, ↓reduceIte])
def c63 : LC :=
 .q [.o [.bx 1 93 0, .s 2 (.mov (.const (.string ⟨#[]⟩)))], .o [.ki 3 0], .q [.o [.fa 4 3 1, .ln 5 4], .k 5 (.o [.ki 3 1]) .skip], .dops [.fa 6 0 1, .ln 7 6, .s 8 (.call 94 [.tmp 7, .const (.int .i64 4)]), .fa 9 1 1, .ln
 10 9, .s 11 (.call 94 [.tmp 10, .const (.int .i64 4)]), .bb 12 .add false 8 11, .fa 13 2 1, .ln 14 13, .s 15 (.call 94 [.tmp 14, .const (.int .i64 2)]), .m 16 3, .c1 17 64 16, .bb 18 .add false 15 17, .fa 19 4 1, .ln 20
 19, .c1 21 65 20, .bb 22 .add false 18 21, .s 23 (.call 93 [.tmp 12, .tmp 22, .const (.int .i64 128)]), .m 2 23], .ret]
def vQ_ : LF := ⟨1, 24, c63, [.tmp 2]⟩
theorem wM_ : as_ Tryz.prog Tryz.f63 vQ_ := al_
theorem lg_ (no life i : Nat) (last : Bool) (part : List UInt8) (hno : no ≤ 4000000000) (hlife : life ≤ 4000000000) (hi : i ≤ 4000000000) (hp : part.length ≤ 108) (h : List Row) : aa_ Tryz.prog 63 [.agg [.val (.int .i64 no), .val (.int .i64 life), .val (.int .i64 i), .val (.bool last), .val (.string (txt part))]] h (.val (.string (txt (mx_ no life i last part)))) := by
 refine ah_ mixed Tryz.func63 wM_ rfl rfl ?_ h
 have ha1 : ∀ c : UInt8, (leN i 2).length + [c].length ≤ 9223372036854775807 := fun c => by rw [ce_, fz_]; omega
 have ha2 : ∀ c : UInt8, (leN i 2 ++ [c]).length + (shB part).length ≤ 9223372036854775807 := fun c => by rw [la_, ce_, fz_, e3_]; omega
 have ha3 : (leN no 4).length + (leN life 4).length ≤ 9223372036854775807 := by rw [ce_, ce_]; omega
 have hst : (leN no 4 ++ leN life 4).length = 8 := by rw [la_, ce_, ce_]
 have hbody := fun last => i0_ i last hp
 cases last
 all_goals
  simp (disch := omega) only [vQ_, c63, go_sem, reduceEqDiff, Nat.reduceAdd, ↓reduceIte]
  repeat' (first
   | (refine aa_.q (fB_ no 4 (by omega) (by omega) _) ?_)
   | (refine aa_.q (fB_ life 4 (by omega) (by omega) _) ?_)
   | (refine aa_.q (fB_ i 2 (by omega) (by omega) _) ?_)
   | (refine aa_.q (b0_ 0 _) ?_)
   | (refine aa_.q (b0_ 1 _) ?_)
   | (refine aa_.q (fg_ part (by omega) _) ?_)
   | (refine aa_.q (hg_ _ (he_ i false part) hst (hbody _) _) ?_)
   | (refine aa_.q (hg_ _ (he_ i true part) hst (hbody _) _) ?_)
   | exact aG_ rfl
   | simp (disch := omega) only [oK_, bv_ _ _ _ (ha2 _), go_sem])
def c38 : LC :=
 .q [.o [.nl 6], .o [.s 10 (.buildSlice 9 1 (.string ⟨#[]⟩) 0 []), .m 7 10], .q [.o [.ki 8 0], .block 0 (.loop (.q [.q [.o [.m 11 8, .m 12 2, .s 13 (.lenStr (.tmp 12)), .bb 14 .lss false 11 13], .k 14 .skip (.exit 0)],
 .block 1 (.q [.o [.m 17 8, .bk 18 .add false 17 108, .m 19 2, .s 20 (.lenStr (.tmp 19)), .c2 21 62 18 20, .m 9 21], .o [.m 22 7, .m 23 0, .m 24 1, .m 25 7, .ll 26 25, .m 27 9, .m 28 2, .s 29 (.lenStr (.tmp 28)), .bb 30
 .eql false 27 29, .m 31 2, .m 32 8, .m 33 9, .s 34 (.sliceStr (.tmp 31) (some (.tmp 32)) (some (.tmp 33))), .s 35 (.build (.agg #[.int .i64 0, .int .i64 0, .int .i64 0, .bool false, .string ⟨#[]⟩]) [(0, 1), (1, 1), (2,
 1), (3, 1), (4, 1)] [(0, .tmp 23), (1, .tmp 24), (2, .tmp 26), (3, .tmp 30), (4, .tmp 34)]), .c1 36 63 35, .s 37 (.buildSlice 9 1 (.string ⟨#[]⟩) 1 [(0, .tmp 36)]), .ap 38 9 1 16 22 37, .m 7 38]]), .o [.m 15 8, .bk 16
 .add false 15 108, .m 8 16]]))], .o [.m 39 7, .m 6 39], .ret]
def u8_ : LF := ⟨3, 40, c38, [.tmp 6]⟩
theorem xr_ : as_ Tryz.prog Tryz.f38 u8_ := al_
theorem jF_ (no life : Nat) (p : List UInt8) (hno : no ≤ 4000000000) (hlife : life ≤ 4000000000) (h0 : 1 ≤ p.length) (hp : p.length ≤ 100000) (h : List Row) : aa_ Tryz.prog 38 [.val (.int .i64 no), .val (.int .i64 life), .val (.string (txt p))] h (.list 0 1 (bQ_ (fk_ no life p))) := by
 refine ah_ mixed Tryz.func38 xr_ rfl rfl ?_ h
 simp (disch := omega) only [u8_, c38, go_sem, ↓reduceIte]
 refine aJ_ (fun m t h => ∃ (k : Nat) (out : List (List UInt8)) (rest : List Row), t 0 = .val (.int .i64 no) ∧ t 1 = .val (.int .i64 life) ∧ t 2 = .val (.string (txt p)) ∧ t 7 = .own 0 out.length ∧ t 8 = .val (.int .i64 (108 * k : Nat)) ∧ h = ⟨9, 1, bQ_ out⟩ :: rest ∧ m = cg_ p - k ∧ k ≤ cg_ p ∧ out = (List.range k).map (gR_ no life p)) (cg_ p) ⟨0, [], [], rfl, rfl, rfl, rfl, rfl, rfl, rfl, Nat.zero_le _, rfl⟩ ?_
 rintro J hJ m t h ⟨k, out, rest, t0, t1, t2, t7, t8, rfl, rfl, hk, ho⟩
 have fl : (bQ_ out).length = out.length := by simp
 have hol : out.length = k := by rw [ho, length_map, length_range]
 have hn : cg_ p = (p.length + 107) / 108 := rfl
 by_cases hd : p.length ≤ 108 * k
 ·have hd' : (((108 * k : Nat) : Int) < (p.length : Int)) = False := eq_false (by omega)
  have hkn : k = cg_ p := by omega
  simp (disch := omega) only [t2, t7, t8, hd', go_sem, reduceEqDiff, ↓reduceIte]
  rw [ho, hkn]
  exact ⟨2, hL_ (r := ⟨9, 1, bQ_ (fk_ no life p)⟩) rfl (by simp [fk_]) (f5_ _)⟩
 have hd' : (((108 * k : Nat) : Int) < (p.length : Int)) = True := eq_true (by omega)
 have hkn : k < cg_ p := by omega
 have hnl : cg_ p ≤ 1000 := by omega
 simp (disch := omega) only [t2, t8, hd', az_, go_sem, reduceEqDiff, ↓reduceIte]
 refine aa_.call (cR_ _ _ _) ?_
 have hmm : min (((108 * k : Nat) : Int) + 108) (p.length : Int) = ((min (108 * k + 108) p.length : Nat) : Int) := by omega
 have hE : (((min (108 * k + 108) p.length : Nat) : Int) = (p.length : Int)) = (p.length ≤ 108 * (k + 1)) := by rw [eq_iff_iff]; omega
 have hB : (108 * k ≤ min (108 * k + 108) p.length) = True := eq_true (by omega)
 have hC : (min (108 * k + 108) p.length ≤ p.length) = True := eq_true (by omega)
 have hT : List.drop (108 * k) (List.take (min (108 * k + 108) p.length) p) = (p.drop (108 * k)).take 108 := by
  rw [← take_take, take_length, drop_take]; congr 1; omega
 have h8 : ((108 * k : Nat) : Int) + 108 = ((108 * (k + 1) : Nat) : Int) := by omega
 simp (disch := omega) only [t0, t1, t2, t7, t8, fl, hmm, hE, hB, hC, hT, go_sem, reduceEqDiff, reduceCtorEq, ↓reduceIte]
 have hpl : ((p.drop (108 * k)).take 108).length ≤ 108 := by rw [length_take]; omega
 have hfin : ∀ (t' : Nat → AV) (H : List Row), t' 0 = t 0 → t' 1 = t 1 → t' 2 = t 2 → t' 7 = .own 0 (out.length + 1) → t' 8 = .val (.int .i64 (108 * (k + 1) : Nat)) → (∃ r', H = ⟨9, 1, bQ_ out ++ [[.val (.string (txt (mx_ no life out.length (decide (p.length ≤ 108 * (k + 1))) ((p.drop (108 * k)).take 108))))]]⟩ :: r') → ∃ m, m < cg_ p - k ∧ J m t' H := by
  rintro t' H e0 e1 e2 e7 e8 ⟨r', rfl⟩
  refine ⟨cg_ p - (k + 1), by omega, hJ _ _ _ ⟨k + 1, out ++ [gR_ no life p k], r', e0.trans t0, e1.trans t1, e2.trans t2, by rw [e7]; simp, e8, ?_, rfl, by omega, by rw [ho, kr_]⟩⟩
  rw [iC_, gR_, hol]
 refine aa_.call (lg_ no life out.length (decide (p.length ≤ 108 * (k + 1))) ((p.drop (108 * k)).take 108) hno hlife (by omega) hpl _) ?_
 simp (disch := omega) only [t8, fl, h8, az_, go_sem, reduceEqDiff, Nat.reduceAdd, reduceLeDiff, ↓reduceIte]
 exact ⟨by omega, by omega, hfin _ _ (by simp [upd]) (by simp [upd]) (by simp [upd]) (by simp [upd]) (by simp [upd]) ⟨_, rfl⟩⟩
theorem qu_ (xs : List ByteArray) : ∀ e ∈ xs.map ax_, e.all AV.flat = true := by
 intro e he
 obtain ⟨x, _, q⟩ := mem_map.1 he; subst q; rfl
theorem lW_ (xs : List ByteArray) : ∀ e ∈ xs.map ax_, e.all AV.cell = true := by
 intro e he
 obtain ⟨x, _, q⟩ := mem_map.1 he; subst q; rfl
theorem nB_ (xs : List ao_) : ∀ e ∈ xs.map ao_.cells, e.all AV.cell = true := by
 intro e he
 obtain ⟨x, _, q⟩ := mem_map.1 he; subst q; rfl
theorem cW_ (xs : List ByteArray) : (xs.map ax_).length = xs.length := length_map ..
theorem e8_ (xs : List ao_) : (xs.map ao_.cells).length = xs.length := length_map ..
structure DO (lo : Nat) (H : List Row) (d : aq_) (l1 l2 : Nat) : Prop where
 secs : H[l1]? = some ⟨9, 1, d.Sectors.map ax_⟩
 puts : H[l2]? = some ⟨87, 2, d.Puts.map ao_.cells⟩
 lt : l1 < l2
 lo1 : lo ≤ l1
abbrev pq_ (d : aq_) (l1 l2 : Nat) : AV := .agg [.val (.int .i64 d.Wide), .own l1 d.Sectors.length, .own l2 d.Puts.length]
theorem gf_ {base l n : Nat} {H : List Row} {E : Tag} {es : List (List AV)} {k : Nat} (hl : H[l]? = some ⟨E, k, es⟩) (hn : es.length = n) (hb : base ≤ l) (hv : ∀ e ∈ es, ∀ c ∈ e, ∃ v, c = AV.val v) : aN_ base (l + 1) H (.own l n) (.list 0 k es) :=
 aN_.mkown (lo := l + 1) (hi := l + 1) (bp_.ofVals _ _ _ _ hv) hl hn hb (Nat.lt_succ_self _) (Nat.le_refl _)
theorem lA_ (xs : List ByteArray) : ∀ e ∈ xs.map ax_, ∀ c ∈ e, ∃ v, c = AV.val v := by
 intro e he c hc
 obtain ⟨x, _, q⟩ := mem_map.1 he; subst q
 simp only [ax_, mem_singleton] at hc
 exact ⟨_, hc⟩
theorem mE_ (xs : List ao_) : ∀ e ∈ xs.map ao_.cells, ∀ c ∈ e, ∃ v, c = AV.val v := by
 intro e he c hc
 obtain ⟨x, _, q⟩ := mem_map.1 he; subst q
 simp only [ao_.cells, mem_cons, not_mem_nil, or_false] at hc
 rcases hc with rfl | rfl
 all_goals exact ⟨_, rfl⟩
theorem DO.fresh {lo : Nat} {H : List Row} {d : aq_} {l1 l2 : Nat} (o : DO lo H d l1 l2) : dp_ lo H (pq_ d l1 l2) (.agg (aq_.cells d)) :=
 (aN_.agg (hi := l2 + 1) (at_.val _ (at_.cons (gf_ o.secs (cW_ _) o.lo1 (lA_ _)) (at_.cons (gf_ o.puts (e8_ _) (Nat.succ_le_of_lt o.lt) (mE_ _)) (at_.nil _ _ _) ⟨by have := o.lt; omega, Nat.le_refl _⟩) ⟨by have := o.lo1; omega, by have := o.lt; omega⟩))).fresh
def c67 : LC :=
 .q [.o [.bx 1 33 0, .s 2 (.alloc 33 z1z)], .gops [.fa 3 0 1, .ln 4 3, .fa 6 1 1, .ln 7 6, .fa 10 2 1, .ln 11 10] [(.s 5 (.buildSlice 9 1 (.string ⟨#[]⟩) 0 []), [.fa 3 0 1, .ln 4 3, .fa 6 1 1, .ln 7 6, .fa 10 2 1, .ln 11
 10]), (.ap 8 9 1 16 5 7, [.fa 3 0 1, .ln 4 3, .fa 10 2 1, .ln 11 10]), (.s 9 (.buildSlice 87 2 (.agg #[.int .i64 0, .string ⟨#[]⟩]) 0 []), [.fa 3 0 1, .ln 4 3, .fa 6 1 1, .ln 7 6, .fa 10 2 1, .ln 11 10]), (.ap 12 87 2 24
 9 11, [.fa 3 0 1, .ln 4 3]), (.s 13 (.build z1z [(0, 1), (1, 1), (2, 1)] [(0, .tmp 4), (1, .tmp 8), (2, .tmp 12)]), []), (.st 3 2 13, [])], .ret]
def vO_ : LF := ⟨1, 14, c67, [.cell 2 (some 3)]⟩
theorem xQ_ : as_ prog Tryz.f67 vO_ := al_
theorem hj_ (d : aq_) (hs : d.Sectors.length ≤ 1048576) (hp : d.Puts.length ≤ 1048576) {H0 : List Row} {K : AV → List Row → Prop} (hk : ∀ H' l1 l2, bk_ H0 H' → DO H0.length H' d l1 l2 → K (pq_ d l1 l2) H') : callSem prog 67 [.agg (aq_.cells d)] H0 K := by
 refine bg_ mixed Tryz.func67 xQ_ (b4_ rfl ?_)
 simp (disch := omega) only [vO_, c67, gB_, cW_, e8_, go_sem, reduceEqDiff, Nat.reduceAdd, ↓reduceIte]
 refine ⟨by omega, by omega, lW_ _, by omega, by omega, nB_ _, ?_⟩
 simp (disch := omega) only [cy_, Option.map_some, go_sem, Nat.reduceAdd, reduceLeDiff, ↓reduceIte]
 exact hk _ _ _ (bk_.app _ _) ⟨p4_ rfl, qR_ rfl, by omega, by omega⟩
theorem jj_ (d : aq_) (hs : d.Sectors.length ≤ 1048576) (hp : d.Puts.length ≤ 1048576) : bA_ prog 67 [.agg (aq_.cells d)] (.agg (aq_.cells d)) (fun _ => True) := by
 intro h K hk
 refine hj_ d hs hp (fun H' l1 l2 m o => ?_)
 obtain ⟨hn, rfl⟩ := m.tail
 exact hk _ _ o.fresh trivial
theorem k5_ (d : aq_) (hs : d.Sectors.length ≤ 1048576) (hp : d.Puts.length ≤ 1048576) (h : List Row) : aa_ prog 67 [.agg (aq_.cells d)] h (.agg (aq_.cells d)) := (jj_ d hs hp).pure rfl h
def c40 : LC :=
 .q [.o [.bx 1 35 0, .s 2 (.alloc 35 z0z)], .o [.ld 4 7 1, .s 3 (.alloc 35 z0z), .st 7 3 4], .o [.fa 5 0 1, .ld 6 3 5, .c1 7 67 6, .fa 8 0 3, .st 3 8 7], .o [.ld 9 7 3, .st 7 2 9], .ret]
def vw_ : LF := ⟨1, 10, c40, [.cell 2 (some 7)]⟩
theorem wQ_ : as_ prog Tryz.f40 vw_ := al_
def c41 : LC :=
 .q [.o [.bx 3 33 0, .s 6 (.alloc 33 z1z), .ki 7 0], .block 0 (.q [.o [.ld 10 3 3, .c1 11 34 10, .nt 12 11, .m 13 12, .gm 14 13 false 2, .g 15 13 false (.lenStr (.tmp 14)), .gf 16 13 false 0 3, .gn 17 13 false 16, .g 18
 13 false (.bin .neq false (.tmp 15) (.tmp 17)), .pt 19 13 18, .m 9 19], .k 9 (.q [.o [.s 20 (.build z1z [(0, 1), (1, 1), (2, 1)] []), .st 3 6 20, .ki 7 1], .ret]) (.q [.o [.ld 22 3 3, .m 23 1, .c2 24 68 22 23, .nt 25 24,
 .m 21 25], .k 21 (.q [.o [.s 26 (.build z1z [(0, 1), (1, 1), (2, 1)] []), .st 3 6 26, .ki 7 2], .ret]) (.q [.o [.fa 28 2 3, .ln 29 28, .ll 30 29, .bk 31 .geq false 30 400, .m 27 31], .k 27 (.q [.o [.s 32 (.build z1z [(0,
 1), (1, 1), (2, 1)] []), .st 3 6 32, .ki 7 4], .ret]) .skip])])]), .o [.ld 33 3 3, .c1 34 67 33, .s 8 (.alloc 33 z1z), .st 3 8 34], .o [.fa 35 2 8, .ln 36 35, .m 37 1, .m 38 2, .s 39 (.build (.agg #[.int .i64 0, .string
 ⟨#[]⟩]) [(0, 1), (1, 1)] [(0, .tmp 37), (1, .tmp 38)]), .s 40 (.buildSlice 87 2 (.agg #[.int .i64 0, .string ⟨#[]⟩]) 1 [(0, .tmp 39)]), .ap 41 87 2 24 36 40, .fa 42 2 8, .st 1 42 41], .o [.ld 43 3 8, .st 3 6 43, .ki 7
 0], .ret]
def rm_ : LF := ⟨3, 44, c41, [.cell 6 (some 3), .tmp 7]⟩
theorem sK_ : as_ prog Tryz.f41 rm_ := al_
theorem dE_ (j : ac_) : ac_.cells j = [.val (.int .i64 j.Disk.Wide), .list 0 1 (j.Disk.Sectors.map ax_), .list 0 2 (j.Disk.Puts.map ao_.cells), .val (.int .i64 j.Life), .val (.int .i64 j.From), .val (.int .i64 j.Last), .val (.int .i64 j.At)] := rfl
theorem hP_ (j : ac_) (hs : j.Disk.Sectors.length ≤ 1048576) (hp : j.Disk.Puts.length ≤ 1048576) (h : List Row) : aa_ prog 40 [.agg (ac_.cells j)] h (.agg (ac_.cells j)) := by
 refine ah_ mixed Tryz.func40 wQ_ rfl rfl ?_ h
 simp (disch := omega) only [vw_, c40, dE_, go_sem, reduceEqDiff, Nat.reduceAdd, reduceLeDiff, ↓reduceIte]
 refine aa_.call (k5_ j.Disk hs hp _) ?_
 simp (disch := omega) only [gB_, cC_, go_sem, reduceEqDiff, Nat.reduceAdd, reduceLeDiff, ↓reduceIte]
 exact eL_ _ _ rfl
def fi_ (d : aq_) (a : Int) (s : ByteArray) : aq_ := { d with Puts := d.Puts ++ [⟨a, s⟩] }
theorem gc_ (d : aq_) (a : Int) (s : ByteArray) (hs : d.Sectors.length ≤ 1048576) (hp : d.Puts.length ≤ 1048576) (h1 : b6_ d = true) (h2 : (s.size : Int) = d.Wide) (h3 : cm_ d a = true) (h4 : d.Puts.length < 400) (h : List Row) : aa_ prog 41 [.agg (aq_.cells d), .val (.int .i64 a), .val (.string s)] h (.tup [.agg (aq_.cells (fi_ d a s)), .val (.int .i64 0)]) := by
 have h4' : ((400 : Int) ≤ d.Puts.length) = False := eq_false (by omega)
 have hk : bA_ prog 41 [.agg (aq_.cells d), .val (.int .i64 a), .val (.string s)] (.tup [.agg (aq_.cells (fi_ d a s)), .val (.int .i64 0)]) (fun _ => True) := by
  refine lB_ mixed Tryz.func41 sK_ rfl (fun h0 => ?_)
  simp (disch := omega) only [rm_, c41, gB_, go_sem, reduceEqDiff, Nat.reduceAdd, ↓reduceIte]
  refine aa_.call (eE_ d hs hp _) ?_
  simp (disch := omega) only [h1, h2, decide_true, aC_, go_sem, reduceEqDiff, Nat.reduceAdd, ↓reduceIte]
  refine aa_.call (hI_ d a hs _) ?_
  simp (disch := omega) only [h3, h4', aC_, go_sem, reduceEqDiff, Nat.reduceAdd, ↓reduceIte]
  refine hj_ d hs hp (fun H' l1 l2 m o => ?_)
  have o1 := o.secs
  have o2 := o.puts
  have p1 := m.at (i := h0.length + 1) (hf_ rfl)
  have ml := m.len
  have hl1 := (List.getElem?_eq_some_iff.1 o1).1
  have hl2 := (List.getElem?_eq_some_iff.1 o2).1
  have q1 := o.lo1
  have q2 := o.lt
  simp only [la_, lc_, ln_] at ml q1
  simp (disch := (first | omega | (simp only [ls_, la_, lc_, ln_]; first | done | omega))) only [bo_, bX_, bR_, ed_, hf_, go_sem, reduceEqDiff, Nat.reduceAdd, reduceLeDiff, ↓reduceIte, o2, p1, cy_, Option.map_some, e8_, bU_]
  refine ⟨by omega, by omega, ?_⟩
  have m0 : bk_ h0 H' := (bk_.app h0 _).trans m
  have e : (fi_ d a s).Puts.length = d.Puts.length + 1 := by simp [fi_]
  rw [← e]
  refine ⟨(((m0.add _).set (by omega)).set (by omega)).set (by omega), aN_.pair (DO.fresh (d := fi_ d a s) (l1 := l1) (l2 := l2) ⟨?_, ?_, o.lt, by omega⟩).b (by simp only [ls_, la_]; omega) _⟩
  ·rw [bo_ (by omega), bo_ (by omega), bo_ (by omega), bR_ hl1]; exact o1
  ·rw [bo_ (by omega), bo_ (by omega), bX_ (by simp only [la_]; omega)]; simp [fi_, ao_.cells]
 exact hk.pure rfl h
theorem jk_ (d : aq_) (a : Int) (s : ByteArray) (hs : d.Sectors.length ≤ 1048576) (hp : d.Puts.length ≤ 1048576) (h1 : b6_ d = true) (h2 : (s.size : Int) = d.Wide) (h3 : cm_ d a = true) (h4 : 400 ≤ d.Puts.length) (h : List Row) : aa_ prog 41 [.agg (aq_.cells d), .val (.int .i64 a), .val (.string s)] h (.tup [.agg [.val (.int .i64 0), .val (.slice none 0 0), .val (.slice none 0 0)], .val (.int .i64 4)]) := by
 have h4' : ((400 : Int) ≤ d.Puts.length) = True := eq_true (by omega)
 refine ah_ mixed Tryz.func41 sK_ rfl rfl ?_ h
 simp (disch := omega) only [rm_, c41, gB_, go_sem, reduceEqDiff, Nat.reduceAdd, ↓reduceIte]
 refine aa_.call (eE_ d hs hp _) ?_
 simp (disch := omega) only [h1, h2, decide_true, aC_, go_sem, reduceEqDiff, Nat.reduceAdd, ↓reduceIte]
 refine aa_.call (hI_ d a hs _) ?_
 simp (disch := omega) only [h3, h4', cy_, Option.map_some, bU_, aC_, go_sem, reduceEqDiff, Nat.reduceAdd, ↓reduceIte]
 exact ⟨3, rfl⟩
def dK_ : Int → List ByteArray → List ao_
 | _, [] => []
 | a, s :: r => ⟨a, s⟩ :: dK_ (a + 1) r
theorem l7_ (l : List ByteArray) (x : ByteArray) : ∀ a : Int, dK_ a (l ++ [x]) = dK_ a l ++ [⟨a + l.length, x⟩] := by
 induction l with
 | nil => intro a; simp [dK_]
 | cons y r ih => intro a; simp only [cons_append, dK_, ih, lc_]; rw [show a + 1 + (r.length : Int) = a + ((r.length + 1 : Nat) : Int) by omega]
theorem i3_ (l : List ByteArray) : ∀ a : Int, (dK_ a l).length = l.length := by
 induction l with
 | nil => intro a; rfl
 | cons y r ih => intro a; simp [dK_, ih]
theorem pM_ {d : aq_} {a : Int} {s : ByteArray} (h1 : b6_ d = true) (h2 : (s.size : Int) = d.Wide) (h3 : cm_ d a = true) (h4 : d.Puts.length < 400) : b6_ (fi_ d a s) = true := by
 simp only [b6_, Bool.and_eq_true, Bool.not_eq_true', decide_eq_false_iff_not] at h1 ⊢
 obtain ⟨⟨⟨⟨q1, q2⟩, q3⟩, q4⟩, q5⟩ := h1
 refine ⟨⟨⟨⟨q1, q2⟩, by simp [fi_]; omega⟩, q4⟩, ?_⟩
 have hf : b7_ (fi_ d a s) = b7_ d := rfl
 rw [hf]
 show (d.Puts ++ [(⟨a, s⟩ : ao_)]).any (b7_ d) = false
 rw [any_append, q5]
 simp [b7_, h2, h3]
def jAt (j : ac_) (cs : List ByteArray) : ac_ := { j with Disk := { j.Disk with Puts := j.Disk.Puts ++ dK_ j.At cs }, At := j.At + cs.length }
theorem jb_ (j : ac_) : jAt j [] = j := by cases j; simp [jAt, dK_]
theorem hX_ (j : ac_) (cs : List ByteArray) (s : ByteArray) : jAt j (cs ++ [s]) = { jAt j cs with Disk := fi_ (jAt j cs).Disk (jAt j cs).At s, At := (jAt j cs).At + 1 } := by
 simp only [jAt, fi_, l7_, append_assoc, la_, length_singleton]
 congr 1; omega
theorem oX_ {st b : List UInt8} (h1 : st.length = 8) (h2 : b.length ≤ 112) : (fV_ st b).length = 128 := by
 simp only [fV_, la_, i5_]; omega
theorem fN_ (no life : Nat) (p : List UInt8) : ∀ s ∈ (fk_ no life p).map txt, s.size = 128 := by
 intro s hs
 obtain ⟨b, hb, rfl⟩ := mem_map.1 hs
 obtain ⟨i, _, rfl⟩ := mem_map.1 hb
 rw [bL_]
 exact oX_ (by rw [la_, ce_, ce_]) (i0_ _ _ (by rw [length_take]; omega))
theorem nH_ {j : ac_} {cs : List ByteArray} (h1 : b6_ j.Disk = true) (hw : j.Disk.Wide = 128) (h0 : 0 ≤ j.At) (hc : ∀ s ∈ cs, s.size = 128) (hA : j.At + cs.length ≤ j.Disk.Sectors.length) : ∀ k : Nat, k ≤ cs.length → j.Disk.Puts.length + k ≤ 400 → b6_ (jAt j (cs.take k)).Disk = true := by
 intro k
 induction k with
 | zero => intro _ _; rw [take_zero, jb_]; exact h1
 | succ k ih =>
  intro hk hP
  have hlt : k < cs.length := hk
  have h9 := ih (by omega) (by omega)
  have hl : (cs.take k).length = k := by rw [length_take]; omega
  rw [take_succ_eq_append_getElem hlt, hX_]
  refine pM_ h9 ?_ ?_ ?_
  ·show (cs[k].size : Int) = j.Disk.Wide
   rw [hw, hc _ (getElem_mem hlt)]; rfl
  ·simp only [cm_, br_, Bool.and_eq_true, decide_eq_true_eq, jAt, hl]; omega
  ·simp only [jAt, la_, i3_, hl]; omega
theorem oy_ {j : ac_} {cs : List ByteArray} (h0 : 0 ≤ j.At) (hA : j.At + cs.length ≤ j.Disk.Sectors.length) {k : Nat} (hk : k < cs.length) : cm_ (jAt j (cs.take k)).Disk (jAt j (cs.take k)).At = true := by
 have hl : (cs.take k).length = k := by rw [length_take]; omega
 simp only [cm_, br_, Bool.and_eq_true, decide_eq_true_eq, jAt, hl]; omega
theorem jI_ {j : ac_} {cs : List ByteArray} {k : Nat} (hk : k ≤ cs.length) : (jAt j (cs.take k)).Disk.Puts.length = j.Disk.Puts.length + k := by
 have hl : (cs.take k).length = k := by rw [length_take]; omega
 simp only [jAt, la_, i3_, hl]
def aT_ (j : ac_) (l : List ab_) : List ByteArray := (fk_ (j.Last + 1).toNat j.Life.toNat (e0_ l)).map txt
def fs_ : ac_ := ⟨⟨0, [], []⟩, 0, 0, 0, 0⟩
def bK_ (j : ac_) (l : List ab_) : Bool := decide (2000000000 ≤ j.Last) || decide ((j.Disk.Sectors.length : Int) < j.At + (aT_ j l).length) || decide (400 < j.Disk.Puts.length + (aT_ j l).length)
def fC_ (j : ac_) (l : List ab_) : ac_ := { jAt j (aT_ j l) with Last := j.Last + 1 }
def a7_ (j : ac_) (l : List ab_) : ac_ × Int := if (bb_ j && bl_ l) = true then (if bK_ j l = true then (fs_, 4) else (fC_ j l, 0)) else (fs_, 1)
theorem jK_ {j : ac_} {l : List ab_} (hi : bl_ l = true) : (aT_ j l).length ≤ 1000 ∧ 1 ≤ (aT_ j l).length := by
 have h1 := jM_ hi
 have h2 : 1 ≤ (e0_ l).length := by simp [e0_]
 simp only [aT_, fk_, length_map, length_range, cg_]; omega
theorem ep_ {j : ac_} (h : bb_ j = true) : b6_ j.Disk = true ∧ j.Disk.Wide = 128 ∧ (1 ≤ j.Life ∧ j.Life ≤ 2000000000) ∧ (1 ≤ j.From ∧ j.From ≤ 2000000000) ∧ (0 ≤ j.Last ∧ j.Last ≤ 2000000000) ∧ (0 ≤ j.At ∧ j.At ≤ j.Disk.Sectors.length) ∧ j.Disk.Sectors.length ≤ 400 ∧ j.Disk.Puts.length ≤ 400 := by
 simp only [bb_, Bool.and_eq_true, decide_eq_true_eq] at h
 obtain ⟨⟨⟨⟨⟨h1, h2⟩, h3⟩, h4⟩, h5⟩, h6⟩ := h
 have h1' := h1
 simp only [b6_, br_, Bool.and_eq_true, Bool.not_eq_true', decide_eq_true_eq, decide_eq_false_iff_not] at h1' h3 h4 h5 h6
 refine ⟨h1, h2, h3, h4, ⟨by omega, h5.2⟩, h6, ?_, ?_⟩
 ·have := h1'.1.1.1.2; omega
 ·have := h1'.1.1.2; omega
theorem kj_ (j : ac_) (l : List ab_) (hj : bb_ j = true) (hi : bl_ l = true) (h : List Row) : aa_ Tryz.prog 50 [.val (.int .i64 (j.Last + 1)), .val (.int .i64 j.Life), .val (.string (txt (e0_ l)))] h (.list 0 1 ((aT_ j l).map ax_)) := by
 obtain ⟨_, _, h3, _, h5, _⟩ := ep_ hj
 have h1 := jM_ hi
 have h2 : 1 ≤ (e0_ l).length := by simp [e0_]
 have := kl_ (j.Last + 1).toNat j.Life.toNat (e0_ l) (by omega) (by omega) h2 h1 h
 rwa [show (((j.Last + 1).toNat : Nat) : Int) = j.Last + 1 by omega, show ((j.Life.toNat : Nat) : Int) = j.Life by omega] at this
theorem gG_ (j : ac_) (l : List ab_) (hj : bb_ j = true) (hi : bl_ l = true) (h : List Row) : aa_ Tryz.prog 38 [.val (.int .i64 (j.Last + 1)), .val (.int .i64 j.Life), .val (.string (txt (e0_ l)))] h (.list 0 1 ((aT_ j l).map ax_)) := by
 obtain ⟨_, _, h3, _, h5, _⟩ := ep_ hj
 have h1 := jM_ hi
 have h2 : 1 ≤ (e0_ l).length := by simp [e0_]
 have := jF_ (j.Last + 1).toNat j.Life.toNat (e0_ l) (by omega) (by omega) h2 h1 h
 rwa [show (((j.Last + 1).toNat : Nat) : Int) = j.Last + 1 by omega, show ((j.Life.toNat : Nat) : Int) = j.Life by omega] at this
def c19 : LC :=
 .q [.o [.bx 2 35 0, .s 4 (.alloc 35 z0z), .ki 5 0], .dops [.fa 11 5 2, .ln 12 11, .bk 13 .add false 12 1, .fa 14 3 2, .ln 15 14, .m 16 1, .c1 17 39 16, .c3 18 38 13 15 17, .m 6 18], .q [.o [.fa 19 5 2, .ln 20 19, .bk 21
 .geq false 20 2000000000, .m 22 21, .gf 23 22 false 6 2, .gn 24 22 false 23, .gm 25 22 false 6, .g 26 22 false (.lenSl (.tmp 25)), .g 27 22 false (.bin .add false (.tmp 24) (.tmp 26)), .gf 28 22 false 0 2, .gf 29 22
 false 1 28, .gn 30 22 false 29, .g 31 22 false (.lenSl (.tmp 30)), .g 32 22 false (.bin .gtr false (.tmp 27) (.tmp 31)), .pt 33 22 32], .k 33 (.q [.o [.s 34 (.build z0z [(0, 3), (3, 1), (4, 1), (5, 1), (6, 1)] []), .st 7
 4 34, .ki 5 4], .ret]) .skip], .o [.ld 35 7 2, .c1 36 40 35, .s 7 (.alloc 35 z0z), .st 7 7 36], .q [.o [.ki 8 0], .block 0 (.loop (.q [.q [.o [.m 37 8, .m 38 6, .ll 39 38, .bb 40 .lss false 37 39], .k 40 .skip (.exit
 0)], .block 1 (.q [.gops [.fa 44 0 7, .ld 45 3 44, .fa 46 6 7, .ln 47 46, .m 48 6, .m 49 8, .ia 50 1 48 49, .ln 51 50] [(.c3 52 41 45 47 51, []), (.m 43 52, []), (.ex 53 43 0, []), (.ex 54 43 1, []), (.s 9 (.alloc 33
 z1z), [.fa 44 0 7, .ld 45 3 44, .fa 46 6 7, .ln 47 46, .m 48 6, .m 49 8, .ia 50 1 48 49, .ln 51 50]), (.st 3 9 53, []), (.m 10 54, [])], .q [.o [.m 55 10, .bk 56 .neq false 55 0], .k 56 (.q [.o [.s 57 (.build z0z [(0,
 3), (3, 1), (4, 1), (5, 1), (6, 1)] []), .st 7 4 57, .ki 5 4], .ret]) .skip], .o [.ld 58 3 9, .fa 59 0 7, .st 3 59 58], .o [.fa 60 6 7, .ln 61 60, .bk 62 .add false 61 1, .fa 63 6 7, .st 1 63 62]]), .o [.m 41 8, .bk 42
 .add false 41 1, .m 8 42]]))], .o [.fa 64 5 2, .ln 65 64, .bk 66 .add false 65 1, .fa 67 5 7, .st 1 67 66], .o [.ld 68 7 7, .st 7 4 68, .ki 5 0], .ret]
def rI_ : LF := ⟨2, 69, c19, [.cell 4 (some 7), .tmp 5]⟩
theorem sw_ : as_ Tryz.prog Tryz.f19 rI_ := al_
theorem j1_ (j : ac_) (l : List ab_) (hl : ar_ ab_.sz l ≤ 1048576) (hj : bb_ j = true) (hi : bl_ l = true) (hb : bK_ j l = false) (h : List Row) : aa_ Tryz.prog 19 [.agg (ac_.cells j), .list 0 6 (l.map ab_.cells)] h (.tup [.agg (ac_.cells (fC_ j l)), .val (.int .i64 0)]) := by
 obtain ⟨j1, j2, j3, j4, j5, j6, j7, j8⟩ := ep_ hj
 obtain ⟨c1, c2⟩ := jK_ (j := j) hi
 have hsz : ∀ s ∈ aT_ j l, s.size = 128 := fN_ _ _ _
 simp only [bK_, Bool.or_eq_false_iff, decide_eq_false_iff_not] at hb
 obtain ⟨⟨b1, b2⟩, b3⟩ := hb
 have b1' : ((2000000000 : Int) ≤ j.Last) = False := eq_false b1
 have b2' : ((j.Disk.Sectors.length : Int) < j.At + (aT_ j l).length) = False := eq_false b2
 refine ah_ mixed Tryz.func19 sw_ rfl rfl ?_ h
 simp (disch := omega) only [rI_, c19, dE_, az_, go_sem, reduceEqDiff, Nat.reduceAdd, ↓reduceIte]
 refine aa_.q (f9_ l hl hi _) ?_
 refine aa_.q (gG_ j l hj hi _) ?_
 simp (disch := omega) only [b1', b2', cW_, az_, go_sem, reduceEqDiff, Nat.reduceAdd, ↓reduceIte]
 refine aa_.call (hP_ j (by omega) (by omega) _) ?_
 simp (disch := omega) only [dE_, go_sem, reduceEqDiff, Nat.reduceAdd, ↓reduceIte]
 refine aJ_ (fun n t h => ∃ k : Nat, t 2 = .ptr 0 1 0 0 ∧ t 4 = .ptr 1 1 0 0 ∧ t 6 = .list 0 1 ((aT_ j l).map ax_) ∧ t 7 = .ptr 2 1 0 0 ∧ t 8 = .val (.int .i64 k) ∧ h[0]? = some ⟨35, 7, [ac_.cells j]⟩ ∧ h[1]? = some ⟨35, 7, [[.val (.int .i64 0), .val (.slice none 0 0), .val (.slice none 0 0), .val (.int .i64 0), .val (.int .i64 0), .val (.int .i64 0), .val (.int .i64 0)]]⟩ ∧ h[2]? = some ⟨35, 7, [ac_.cells (jAt j ((aT_ j l).take k))]⟩ ∧ n = (aT_ j l).length - k ∧ k ≤ (aT_ j l).length) (aT_ j l).length ⟨0, rfl, rfl, rfl, rfl, rfl, rfl, rfl, by rw [take_zero, jb_]; rfl, rfl, Nat.zero_le _⟩ ?_
 rintro J hJ n t h ⟨k, t2, t4, t6, t7, t8, o0, o1, o2, rfl, hk⟩
 have hl2 := (List.getElem?_eq_some_iff.1 o2).1
 by_cases hlt : k < (aT_ j l).length
 ·have hok := nH_ j1 j2 j6.1 hsz (by omega) k hk (by omega)
  have hhas := oy_ (cs := aT_ j l) j6.1 (by omega) hlt
  have hpl := jI_ (j := j) (cs := aT_ j l) hk
  have hwd : ((aT_ j l)[k].size : Int) = (jAt j ((aT_ j l).take k)).Disk.Wide := by
   show _ = j.Disk.Wide
   rw [j2, hsz _ (getElem_mem hlt)]; rfl
  have hsl : (jAt j ((aT_ j l).take k)).Disk.Sectors.length ≤ 1048576 := by show j.Disk.Sectors.length ≤ _; omega
  have hnx := hX_ j ((aT_ j l).take k) (aT_ j l)[k]
  have hat : (jAt j ((aT_ j l).take k)).At ≤ 2000 := by simp only [jAt, length_take]; omega
  have hat0 : 0 ≤ (jAt j ((aT_ j l).take k)).At := by simp only [jAt]; omega
  rw [← take_succ_eq_append_getElem hlt] at hnx
  generalize jAt j ((aT_ j l).take k) = x at *
  simp only [dE_] at o0 o2
  simp (disch := (first | omega | (simp only [ls_, la_, lc_, ln_]; first | done | omega))) only [go_sem, reduceEqDiff, Nat.reduceAdd, reduceLeDiff, ↓reduceIte, t6, t7, t8, o2, hlt, ax_]
  refine aa_.call (gc_ x.Disk x.At (aT_ j l)[k] hsl (by omega) hok hwd hhas (by omega) _) ?_
  simp (disch := (first | omega | (simp only [ls_, la_, lc_, ln_]; first | done | omega))) only [bX_, bR_, ed_, go_sem, reduceEqDiff, Nat.reduceAdd, reduceLeDiff, ↓reduceIte, t6, t7, t8, o2, gB_, az_]
  refine ⟨(aT_ j l).length - (k + 1), by omega, hJ _ _ _ ⟨k + 1, by simp [upd, t2], by simp [upd, t4], by simp [upd, t6], by simp [upd, t7], by simp [upd], ?_, ?_, ?_, rfl, by omega⟩⟩
  ·(repeat (first | rw [bo_ (by omega)] | rw [bR_ (by first | omega | (simp only [ls_, la_, lc_, ln_]; omega))])); exact o0
  ·(repeat (first | rw [bo_ (by omega)] | rw [bR_ (by first | omega | (simp only [ls_, la_, lc_, ln_]; omega))])); exact o1
  ·rw [hnx, bX_ (by simp only [ls_, la_]; omega)]; rfl
 have hke : (aT_ j l).take k = aT_ j l := take_of_length_le (by omega)
 rw [hke] at o2
 simp only [dE_] at o0 o2
 simp (disch := (first | omega | (simp only [ls_, la_, lc_, ln_]; first | done | omega))) only [bo_, bX_, go_sem, reduceEqDiff, Nat.reduceAdd, reduceLeDiff, ↓reduceIte, t2, t4, t6, t7, t8, o0, o1, o2, hlt, cW_, az_, bU_]
 exact ⟨3, rfl⟩
theorem aa_.conv {P : Program} {f : FuncId} {args : List AV} {h : List Row} {r r' : AV} (hc : aa_ P f args h r) (hr : ∀ S x, Rep S r x → Rep S r' x) : aa_ P f args h r' := fun K hk S w vals m g rp =>
 (hc (fun a h' => a = r ∧ h' = h) ⟨rfl, rfl⟩ S w vals m g rp).mono fun _ _ ⟨v, av, S', h', e, s, m', r2, q⟩ => by
  obtain ⟨rfl, rfl⟩ := q
  exact ⟨v, _, S', _, e, s, m', hr _ _ r2, hk⟩
theorem ha_ {S : Sit} {a b : AV} {cs ds : List AV} (hr : ∀ x, Rep S a x → Rep S b x) (hs : ∀ vs, af_ S cs vs → af_ S ds vs) : ∀ vs, af_ S (a :: cs) vs → af_ S (b :: ds) vs := fun vs ⟨v, r, e, h1, h2⟩ => ⟨v, r, e, hr _ h1, hs _ h2⟩
theorem oM_ {S : Sit} {n : Nat} {x : Value} (h : Rep S (.val (.slice none 0 0)) x) : Rep S (.list 0 n []) x := by
 simp only [Rep] at h ⊢
 exact .inl ⟨trivial, trivial, none, 0, h⟩
abbrev mt_ (c : Int) : AV := .tup [.agg [.val (.int .i64 0), .val (.slice none 0 0), .val (.slice none 0 0), .val (.int .i64 0), .val (.int .i64 0), .val (.int .i64 0), .val (.int .i64 0)], .val (.int .i64 c)]
theorem nI_ (c : Int) (S : Sit) (x : Value) (h : Rep S (mt_ c) x) : Rep S (.tup [.agg (ac_.cells fs_), .val (.int .i64 c)]) x := by
 obtain ⟨vs, e, h⟩ := h
 refine ⟨vs, e, ha_ (fun x h => ?_) (fun _ h => h) _ h⟩
 obtain ⟨vs, e, h⟩ := h
 exact ⟨vs, e, ha_ (fun _ h => h) (ha_ (fun _ h => oM_ h) (ha_ (fun _ h => oM_ h) (fun _ h => h))) _ h⟩
theorem kv_ (j : ac_) (l : List ab_) (hl : ar_ ab_.sz l ≤ 1048576) (hj : bb_ j = true) (hi : bl_ l = true) (hb : bK_ j l = true) (h : List Row) : aa_ Tryz.prog 19 [.agg (ac_.cells j), .list 0 6 (l.map ab_.cells)] h (mt_ 4) := by
 obtain ⟨j1, j2, j3, j4, j5, j6, j7, j8⟩ := ep_ hj
 obtain ⟨c1, c2⟩ := jK_ (j := j) hi
 have hsz : ∀ s ∈ aT_ j l, s.size = 128 := fN_ _ _ _
 refine ah_ mixed Tryz.func19 sw_ rfl rfl ?_ h
 simp (disch := omega) only [rI_, c19, dE_, az_, go_sem, reduceEqDiff, Nat.reduceAdd, ↓reduceIte]
 refine aa_.q (f9_ l hl hi _) ?_
 refine aa_.q (gG_ j l hj hi _) ?_
 by_cases b1 : (2000000000 : Int) ≤ j.Last
 ·simp (disch := omega) only [b1, cy_, Option.map_some, bU_, go_sem, reduceEqDiff, Nat.reduceAdd, ↓reduceIte]
  exact ⟨3, rfl⟩
 by_cases b2 : (j.Disk.Sectors.length : Int) < j.At + (aT_ j l).length
 ·simp (disch := omega) only [b1, b2, cW_, az_, cy_, Option.map_some, bU_, go_sem, reduceEqDiff, Nat.reduceAdd, ↓reduceIte]
  exact ⟨3, rfl⟩
 have b3 : 400 < j.Disk.Puts.length + (aT_ j l).length := by
  simp only [bK_, decide_eq_false b1, decide_eq_false b2, Bool.false_or, decide_eq_true_eq] at hb
  exact hb
 simp (disch := omega) only [b1, b2, cW_, az_, go_sem, reduceEqDiff, Nat.reduceAdd, ↓reduceIte]
 refine aa_.call (hP_ j (by omega) (by omega) _) ?_
 simp (disch := omega) only [dE_, go_sem, reduceEqDiff, Nat.reduceAdd, ↓reduceIte]
 refine aJ_ (fun n t h => ∃ k : Nat, t 2 = .ptr 0 1 0 0 ∧ t 4 = .ptr 1 1 0 0 ∧ t 6 = .list 0 1 ((aT_ j l).map ax_) ∧ t 7 = .ptr 2 1 0 0 ∧ t 8 = .val (.int .i64 k) ∧ h[0]? = some ⟨35, 7, [ac_.cells j]⟩ ∧ h[1]? = some ⟨35, 7, [[.val (.int .i64 0), .val (.slice none 0 0), .val (.slice none 0 0), .val (.int .i64 0), .val (.int .i64 0), .val (.int .i64 0), .val (.int .i64 0)]]⟩ ∧ h[2]? = some ⟨35, 7, [ac_.cells (jAt j ((aT_ j l).take k))]⟩ ∧ n = (aT_ j l).length - k ∧ j.Disk.Puts.length + k ≤ 400) (aT_ j l).length ⟨0, rfl, rfl, rfl, rfl, rfl, rfl, rfl, by rw [take_zero, jb_]; rfl, rfl, j8⟩ ?_
 rintro J hJ n t h ⟨k, t2, t4, t6, t7, t8, o0, o1, o2, rfl, hk⟩
 have hl2 := (List.getElem?_eq_some_iff.1 o2).1
 have hlt : k < (aT_ j l).length := by omega
 have hok := nH_ j1 j2 j6.1 hsz (by omega) k (by omega) (by omega)
 have hhas := oy_ (cs := aT_ j l) j6.1 (by omega) hlt
 have hpl := jI_ (j := j) (cs := aT_ j l) (k := k) (by omega)
 have hwd : ((aT_ j l)[k].size : Int) = (jAt j ((aT_ j l).take k)).Disk.Wide := by
  show _ = j.Disk.Wide
  rw [j2, hsz _ (getElem_mem hlt)]; rfl
 have hsl : (jAt j ((aT_ j l).take k)).Disk.Sectors.length ≤ 1048576 := by show j.Disk.Sectors.length ≤ _; omega
 have hnx := hX_ j ((aT_ j l).take k) (aT_ j l)[k]
 have hat : (jAt j ((aT_ j l).take k)).At ≤ 2000 := by simp only [jAt, length_take]; omega
 have hat0 : 0 ≤ (jAt j ((aT_ j l).take k)).At := by simp only [jAt]; omega
 rw [← take_succ_eq_append_getElem hlt] at hnx
 generalize jAt j ((aT_ j l).take k) = x at *
 simp only [dE_] at o0 o2
 simp (disch := (first | omega | (simp only [ls_, la_, lc_, ln_]; first | done | omega))) only [go_sem, reduceEqDiff, Nat.reduceAdd, reduceLeDiff, ↓reduceIte, t6, t7, t8, o2, hlt, ax_]
 by_cases hf : j.Disk.Puts.length + k < 400
 ·refine aa_.call (gc_ x.Disk x.At (aT_ j l)[k] hsl (by omega) hok hwd hhas (by omega) _) ?_
  simp (disch := (first | omega | (simp only [ls_, la_, lc_, ln_]; first | done | omega))) only [bX_, bR_, ed_, go_sem, reduceEqDiff, Nat.reduceAdd, reduceLeDiff, ↓reduceIte, t6, t7, t8, o2, gB_, az_]
  refine ⟨(aT_ j l).length - (k + 1), by omega, hJ _ _ _ ⟨k + 1, by simp [upd, t2], by simp [upd, t4], by simp [upd, t6], by simp [upd, t7], by simp [upd], ?_, ?_, ?_, rfl, by omega⟩⟩
  ·(repeat (first | rw [bo_ (by omega)] | rw [bR_ (by first | omega | (simp only [ls_, la_, lc_, ln_]; omega))])); exact o0
  ·(repeat (first | rw [bo_ (by omega)] | rw [bR_ (by first | omega | (simp only [ls_, la_, lc_, ln_]; omega))])); exact o1
  ·rw [hnx, bX_ (by simp only [ls_, la_]; omega)]; rfl
 ·refine aa_.call (jk_ x.Disk x.At (aT_ j l)[k] hsl (by omega) hok hwd hhas (by omega) _) ?_
  simp (disch := (first | omega | (simp only [ls_, la_, lc_, ln_]; first | done | omega))) only [bX_, bR_, ed_, go_sem, reduceEqDiff, Nat.reduceAdd, reduceLeDiff, ↓reduceIte, t4, t6, t7, t8, o1, o2, cy_, Option.map_some, bU_, Int.reduceEq, decide_false, Bool.not_false]
  exact ⟨3, rfl⟩
def c6 : LC :=
 .q [.o [.bx 2 35 0, .s 4 (.alloc 35 z0z), .ki 5 0], .q [.o [.ld 6 7 2, .c1 7 17 6, .nt 8 7, .m 9 8, .gm 10 9 false 1, .gc 11 9 false 18 10, .gu 12 9 false 11, .pt 13 9 12], .k 13 (.q [.o [.s 14 (.build z0z [(0, 3), (3,
 1), (4, 1), (5, 1), (6, 1)] []), .st 7 4 14, .ki 5 1], .ret]) .skip], .o [.ld 15 7 2, .m 16 1, .c2 17 19 15 16, .ex 18 17 0, .ex 19 17 1, .st 7 4 18, .m 5 19], .ret]
def lf6 : LF := ⟨2, 20, c6, [.cell 4 (some 7), .tmp 5]⟩
theorem uz_ : as_ Tryz.prog Tryz.f6 lf6 := al_
theorem gD_ (j : ac_) (l : List ab_) (hj : ac_.sz j ≤ 1048576) (hl : ar_ ab_.sz l ≤ 1048576) (h : List Row) : aa_ Tryz.prog 6 [.agg (ac_.cells j), .list 0 6 (l.map ab_.cells)] h (.tup [.agg (ac_.cells (a7_ j l).1), .val (.int .i64 (a7_ j l).2)]) := by
 by_cases q : (bb_ j && bl_ l) = true
 case neg =>
  have e : a7_ j l = (fs_, 1) := by rw [a7_, if_neg q]
  rw [e]
  refine aa_.conv (r := mt_ 1) ?_ (nI_ 1)
  refine ah_ mixed Tryz.func6 uz_ rfl rfl ?_ h
  simp (disch := omega) only [lf6, c6, dE_, go_sem, reduceEqDiff, Nat.reduceAdd, ↓reduceIte]
  refine aa_.call (f8_ j hj _) ?_
  by_cases q1 : bb_ j = true
  ·have q2 : bl_ l = false := by simpa [q1] using q
   simp (disch := omega) only [q1, go_sem, reduceEqDiff, ↓reduceIte]
   first | refine aa_.call (c0_ l hl _) ?_ | refine aa_.q (c0_ l hl _) ?_
   simp (disch := omega) only [q2, cy_, Option.map_some, bU_, go_sem, reduceEqDiff, Nat.reduceAdd, ↓reduceIte]
   exact ⟨3, rfl⟩
  ·have q1' : bb_ j = false := by simpa using q1
   simp (disch := omega) only [q1', cy_, Option.map_some, bU_, go_sem, reduceEqDiff, Nat.reduceAdd, ↓reduceIte]
   exact ⟨3, rfl⟩
 obtain ⟨q1, q2⟩ : bb_ j = true ∧ bl_ l = true := by simpa using q
 have hadd : ∀ H, aa_ Tryz.prog 19 [.agg (ac_.cells j), .list 0 6 (l.map ab_.cells)] H (.tup [.agg (ac_.cells (a7_ j l).1), .val (.int .i64 (a7_ j l).2)]) := by
  intro H
  by_cases b : bK_ j l = true
  ·have e : a7_ j l = (fs_, 4) := by rw [a7_, if_pos q, if_pos b]
   rw [e]
   exact aa_.conv (kv_ j l hl q1 q2 b H) (nI_ 4)
  ·have e : a7_ j l = (fC_ j l, 0) := by rw [a7_, if_pos q, if_neg b]
   rw [e]
   exact j1_ j l hl q1 q2 (by simpa using b) H
 generalize a7_ j l = R at *
 refine ah_ mixed Tryz.func6 uz_ rfl rfl ?_ h
 simp (disch := omega) only [lf6, c6, dE_, go_sem, reduceEqDiff, Nat.reduceAdd, ↓reduceIte]
 refine aa_.call (f8_ j hj _) ?_
 simp (disch := omega) only [q1, go_sem, reduceEqDiff, ↓reduceIte]
 first | refine aa_.call (c0_ l hl _) ?_ | refine aa_.q (c0_ l hl _) ?_
 simp (disch := omega) only [q2, go_sem, reduceEqDiff, Nat.reduceAdd, ↓reduceIte]
 refine aa_.call (hadd _) ?_
 simp (disch := omega) only [dE_, bU_, go_sem, reduceEqDiff, Nat.reduceAdd, ↓reduceIte]
 exact ⟨3, rfl⟩
def c80 : LC :=
 .q [.o [.nl 2], .q [.o [.m 3 0, .s 4 (.isNil false (.tmp 3))], .k 4 (.q [.o [.nl 2], .ghost .ret]) .skip], .o [.s 5 (.buildSlice 9 1 (.string ⟨#[]⟩) 0 []), .m 6 0, .ap 7 9 1 16 5 6, .m 2 7], .ghost .ret]
def vD_ : LF := ⟨1, 8, c80, [.tmp 2]⟩
theorem w0_ : as_ prog Tryz.f80 vD_ := al_
def c81 : LC :=
 .q [.o [.nl 2], .q [.o [.m 3 0, .s 4 (.isNil false (.tmp 3))], .k 4 (.q [.o [.nl 2], .ghost .ret]) .skip], .o [.s 5 (.buildSlice 87 2 (.agg #[.int .i64 0, .string ⟨#[]⟩]) 0 []), .m 6 0, .ap 7 87 2 24 5 6, .m 2 7], .ghost
 .ret]
def vM_ : LF := ⟨1, 8, c81, [.tmp 2]⟩
theorem wF_ : as_ prog Tryz.f81 vM_ := al_
theorem gX_ (xs : List ByteArray) (hx : xs.length ≤ 1048576) (h0 : List Row) (K : AV → List Row → Prop) (hk : ∀ H', bk_ h0 H' → H'[h0.length]? = some ⟨9, 1, xs.map ax_⟩ → K (.own h0.length xs.length) H') : callSem prog 80 [.list 0 1 (xs.map ax_)] h0 K := by
 refine bg_ mixed Tryz.func80 w0_ (b4_ rfl ?_)
 simp (disch := omega) only [vD_, c80, go_sem, reduceCtorEq, ↓reduceIte]
 intro b hb
 cases b
 ·simp (disch := omega) only [bne_self_eq_false, cW_, go_sem, reduceEqDiff, reduceCtorEq, ↓reduceIte]
  refine ⟨by omega, by omega, lW_ _, ?_⟩
  try simp (disch := omega) only [go_sem, reduceEqDiff, Nat.reduceAdd, reduceLeDiff, reduceCtorEq, Int.reduceLT, Int.reduceLE, Int.reduceNeg, Int.reduceSub, Int.reduceAdd, Int.reduceToNat, ↓reduceIte]
  refine is_ _ _ nE_ ?_
  simp (disch := omega) only [go_sem, ↓reduceIte]
  exact hk _ (bk_.app _ _) (by rw [es_]; rfl)
 ·have hx0 : xs = [] := by simpa using hb rfl
  subst hx0
  simp (disch := omega) only [Bool.bne_false, map_nil, go_sem]
  refine is_ _ _ (lH_ 2 9 1 rfl) ?_
  simp (disch := omega) only [go_sem, ↓reduceIte]
  exact hk _ (bk_.app _ _) (by rw [es_]; rfl)
theorem gp_ (xs : List ao_) (hx : xs.length ≤ 1048576) (h0 : List Row) (K : AV → List Row → Prop) (hk : ∀ H', bk_ h0 H' → H'[h0.length]? = some ⟨87, 2, xs.map ao_.cells⟩ → K (.own h0.length xs.length) H') : callSem prog 81 [.list 0 2 (xs.map ao_.cells)] h0 K := by
 refine bg_ mixed Tryz.func81 wF_ (b4_ rfl ?_)
 simp (disch := omega) only [vM_, c81, go_sem, reduceCtorEq, ↓reduceIte]
 intro b hb
 cases b
 ·simp (disch := omega) only [bne_self_eq_false, e8_, go_sem, reduceEqDiff, reduceCtorEq, ↓reduceIte]
  refine ⟨by omega, by omega, nB_ _, ?_⟩
  try simp (disch := omega) only [go_sem, reduceEqDiff, Nat.reduceAdd, reduceLeDiff, reduceCtorEq, Int.reduceLT, Int.reduceLE, Int.reduceNeg, Int.reduceSub, Int.reduceAdd, Int.reduceToNat, ↓reduceIte]
  refine is_ _ _ nE_ ?_
  simp (disch := omega) only [go_sem, ↓reduceIte]
  exact hk _ (bk_.app _ _) (by rw [es_]; rfl)
 ·have hx0 : xs = [] := by simpa using hb rfl
  subst hx0
  simp (disch := omega) only [Bool.bne_false, map_nil, go_sem]
  refine is_ _ _ (lH_ 2 87 2 rfl) ?_
  simp (disch := omega) only [go_sem, ↓reduceIte]
  exact hk _ (bk_.app _ _) (by rw [es_]; rfl)
def c49 : LC :=
 .q [.o [.bx 1 33 0, .s 2 (.alloc 33 z1z)], .gops [.fa 3 0 1, .ln 4 3, .fa 5 1 1, .ln 6 5, .fa 8 2 1, .ln 9 8] [(.c1 7 80 6, [.fa 3 0 1, .ln 4 3, .fa 8 2 1, .ln 9 8]), (.c1 10 81 9, [.fa 3 0 1, .ln 4 3]), (.s 11 (.build
 z1z [(0, 1), (1, 1), (2, 1)] [(0, .tmp 4), (1, .tmp 7), (2, .tmp 10)]), []), (.st 3 2 11, [])], .ret]
def t2_ : LF := ⟨1, 12, c49, [.cell 2 (some 3)]⟩
theorem wO_ : as_ prog Tryz.f49 t2_ := al_
def c24 : LC :=
 .q [.o [.bx 1 35 0, .s 2 (.mov (.const (.pointer none)))], .o [.fa 3 0 1, .ld 4 3 3, .c1 5 49 4, .fa 6 0 1, .st 3 6 5], .o [.m 2 1], .ret]
def vN_ : LF := ⟨1, 7, c24, [.tmp 2]⟩
theorem wY_ : as_ prog Tryz.f24 vN_ := al_
def c52 : LC :=
 .o [.m 6 0, .m 7 0, .nc 8 7, .fa 9 2 8, .ln 10 9, .m 11 1, .m 12 2, .s 13 (.build (.agg #[.int .i64 0, .string ⟨#[]⟩]) [(0, 1), (1, 1)] [(0, .tmp 11), (1, .tmp 12)]), .s 14 (.buildSlice 87 2 (.agg #[.int .i64 0, .string
 ⟨#[]⟩]) 1 [(0, .tmp 13)]), .ap 15 87 2 24 10 14, .nc 16 6, .fa 17 2 16, .st 1 17 15]
def uZ_ : LF := ⟨3, 18, c52, []⟩
theorem xw_ : as_ prog Tryz.f52 uZ_ := al_
theorem jm_ (d : aq_) (hs : d.Sectors.length ≤ 1048576) (hp : d.Puts.length ≤ 1048576) {H0 : List Row} {K : AV → List Row → Prop} (hk : ∀ H' l1 l2, bk_ H0 H' → DO H0.length H' d l1 l2 → K (pq_ d l1 l2) H') : callSem prog 49 [.agg (aq_.cells d)] H0 K := by
 refine bg_ mixed Tryz.func49 wO_ (b4_ rfl ?_)
 simp (disch := omega) only [t2_, c49, gB_, go_sem, reduceEqDiff, Nat.reduceAdd, ↓reduceIte]
 refine gX_ d.Sectors hs _ _ (fun H1 m1 r1 => ?_)
 have p0 := m1.at (i := H0.length) (ed_ rfl)
 have p1 := m1.at (i := H0.length + 1) (hf_ rfl)
 have l1 := m1.len
 simp only [la_, lc_, ln_] at l1 r1
 have k1 := (List.getElem?_eq_some_iff.1 r1).1
 simp (disch := (first | omega | (simp only [ls_, la_, lc_, ln_]; first | done | omega))) only [go_sem, reduceEqDiff, Nat.reduceAdd, ↓reduceIte, p0]
 refine gp_ d.Puts hp _ _ (fun H2 m2 r2 => ?_)
 have p0' := m2.at p0
 have p1' := m2.at p1
 have r1' := m2.at r1
 have k2 := (List.getElem?_eq_some_iff.1 r2).1
 have l2 := m2.len
 simp (disch := (first | omega | (simp only [ls_, la_, lc_, ln_]; first | done | omega))) only [bX_, go_sem, reduceEqDiff, Nat.reduceAdd, reduceLeDiff, ↓reduceIte, p0', p1', cy_, Option.map_some, cC_]
 have m0 : bk_ H0 H2 := ((bk_.app H0 _).trans m1).trans m2
 refine hk _ _ _ (m0.set (by omega)) ⟨?_, ?_, by omega, by omega⟩
 ·(repeat (first | rw [bo_ (by omega)] | rw [bR_ (by first | omega | (simp only [ls_, la_, lc_, ln_]; omega))])); exact r1'
 ·(repeat (first | rw [bo_ (by omega)] | rw [bR_ (by first | omega | (simp only [ls_, la_, lc_, ln_]; omega))])); exact r2
structure JB (lo : Nat) (H : List Row) (j : ac_) (L l1 l2 : Nat) : Prop where
 box : H[L]? = some ⟨35, 7, [[.val (.int .i64 j.Disk.Wide), .own l1 j.Disk.Sectors.length, .own l2 j.Disk.Puts.length, .val (.int .i64 j.Life), .val (.int .i64 j.From), .val (.int .i64 j.Last), .val (.int .i64 j.At)]]⟩
 disk : DO lo H j.Disk l1 l2
 ne1 : L ≠ l1
 ne2 : L ≠ l2
 lo0 : lo ≤ L
theorem ip_ (j : ac_) (hs : j.Disk.Sectors.length ≤ 1048576) (hp : j.Disk.Puts.length ≤ 1048576) {H0 : List Row} {K : AV → List Row → Prop} (hk : ∀ H' L l1 l2, bk_ H0 H' → JB H0.length H' j L l1 l2 → K (.ptr L 1 0 0) H') : callSem prog 24 [.agg (ac_.cells j)] H0 K := by
 refine bg_ mixed Tryz.func24 wY_ (b4_ rfl ?_)
 simp (disch := omega) only [vN_, c24, dE_, go_sem, reduceEqDiff, Nat.reduceAdd, reduceLeDiff, ↓reduceIte]
 refine jm_ j.Disk hs hp (fun H1 l1 l2 m1 o => ?_)
 have p0 := m1.at (i := H0.length) (ed_ rfl)
 have ml := m1.len
 have q1 := o.lo1
 have q2 := o.lt
 simp only [la_, lc_, ln_] at ml q1
 simp (disch := (first | omega | (simp only [ls_, la_, lc_, ln_]; first | done | omega))) only [go_sem, reduceEqDiff, Nat.reduceAdd, reduceLeDiff, ↓reduceIte, p0]
 refine hk _ _ l1 l2 (((bk_.app H0 _).trans m1).set (Nat.le_refl _)) ⟨?_, ⟨?_, ?_, q2, by omega⟩, by omega, by omega, Nat.le_refl _⟩
 ·rw [bX_ (by omega)]; rfl
 ·(repeat (first | rw [bo_ (by omega)] | rw [bR_ (by first | omega | (simp only [ls_, la_, lc_, ln_]; omega))])); exact o.secs
 ·(repeat (first | rw [bo_ (by omega)] | rw [bR_ (by first | omega | (simp only [ls_, la_, lc_, ln_]; omega))])); exact o.puts
theorem jp_ {lo : Nat} {H : List Row} {j : ac_} {L l1 l2 : Nat} (B : JB lo H j L l1 l2) (a : Int) (s : ByteArray) (hp : j.Disk.Puts.length ≤ 1048576) {K : AV → List Row → Prop} (hk : ∀ H', JB lo H' { j with Disk := fi_ j.Disk a s } L l1 l2 → H.length ≤ H'.length → (∀ i, i ≠ L → i ≠ l2 → i < H.length → H'[i]? = H[i]?) → K (.tup []) H') : callSem prog 52 [.ptr L 1 0 0, .val (.int .i64 a), .val (.string s)] H K := by
 refine bg_ mixed Tryz.func52 xw_ (b4_ rfl ?_)
 have o0 := B.box
 have o1 := B.disk.secs
 have o2 := B.disk.puts
 have n1 := B.ne1
 have n2 := B.ne2
 have n3 := B.disk.lt
 have k0 := (List.getElem?_eq_some_iff.1 o0).1
 have k1 := (List.getElem?_eq_some_iff.1 o1).1
 have k2 := (List.getElem?_eq_some_iff.1 o2).1
 simp (disch := (first | omega | (simp only [ls_, la_, lc_, ln_]; first | done | omega))) only [bo_, bR_, ed_, go_sem, reduceEqDiff, Nat.reduceAdd, reduceLeDiff, reduceCtorEq, ↓reduceIte, uZ_, c52, o0, o2, cy_, Option.map_some, e8_]
 refine ⟨by omega, by omega, ?_⟩
 rw [om_]
 refine ⟨[], rfl, hk _ ⟨?_, ⟨?_, ?_, n3, B.disk.lo1⟩, n1, n2, B.lo0⟩ (by simp) ?_⟩
 ·rw [bX_ (by simp only [ls_, la_]; omega)]; simp [fi_]
 ·(repeat (first | rw [bo_ (by omega)] | rw [bR_ (by first | omega | (simp only [ls_, la_, lc_, ln_]; omega))])); exact o1
 ·(repeat (first | rw [bo_ (by omega)] | rw [bR_ (by first | omega | (simp only [ls_, la_, lc_, ln_]; omega))])); rw [bX_ (by simp only [la_]; omega)]; simp [fi_, ao_.cells]
 ·intro i i1 i2 i3; rw [bo_ (by omega), bo_ (by omega), bR_ i3]
def c25 : LC :=
 .q [.o [.ki 4 0], .q [.o [.m 8 0, .nc 9 8, .fa 10 5 9, .ln 11 10, .bk 12 .eql false 11 2000000000], .k 12 (.q [.o [.ki 4 4], .ret]) .skip], .gops [.m 13 0, .nc 14 13, .fa 15 5 14, .ln 16 15, .bk 17 .add false 16 1, .m 18
 0, .nc 19 18, .fa 20 3 19, .ln 21 20, .m 22 1] [(.c1 23 51 22, [.m 13 0, .nc 14 13, .fa 15 5 14, .ln 16 15, .bk 17 .add false 16 1, .m 18 0, .nc 19 18, .fa 20 3 19, .ln 21 20]), (.c3 24 50 17 21 23, []), (.m 5 24, [])],
 .q [.dops [.m 25 0, .nc 26 25, .fa 27 6 26, .ln 28 27, .m 29 5, .c1 30 46 29, .bb 31 .add false 28 30, .m 32 0, .nc 33 32, .fa 34 0 33, .fa 35 1 34, .ln 36 35, .c1 37 46 36, .bb 38 .gtr false 31 37, .m 39 38, .gm 40 39
 false 0, .g 41 39 false (.nilCheck (.tmp 40)), .gf 42 39 false 0 41, .gf 43 39 false 2 42, .gn 44 39 false 43, .g 45 39 false (.lenSl (.tmp 44)), .gm 46 39 false 5, .g 47 39 false (.lenSl (.tmp 46)), .g 48 39 false (.bin
 .add false (.tmp 45) (.tmp 47)), .g 49 39 false (.bin .gtr false (.tmp 48) (.const (.int .i64 400))), .pt 50 39 49], .k 50 (.q [.o [.ki 4 4], .ret]) .skip], .q [.o [.m 51 5, .ll 52 51, .ki 53 0], .block 0 (.loop (.q [.o
 [.bb 54 .lss false 53 52], .k 54 .skip (.exit 0), .block 1 (.q [.o [.ia 55 1 51 53, .ln 56 55, .m 7 56], .gops [.m 57 0, .nc 58 57, .fa 59 0 58, .m 60 0, .nc 61 60, .fa 62 6 61, .ln 63 62, .m 64 7] [(.c3 65 52 59 63 64,
 [])], .o [.m 66 0, .nc 67 66, .fa 68 6 67, .ln 69 68, .bk 70 .add false 69 1, .nc 71 66, .fa 72 6 71, .st 1 72 70]]), .o [.bk 73 .add false 53 1, .m 53 73]]))], .o [.m 74 0, .nc 75 74, .fa 76 5 75, .ln 77 76, .bk 78 .add
 false 77 1, .nc 79 74, .fa 80 5 79, .st 1 80 78], .o [.ki 4 0], .ret]
def rP_ : LF := ⟨2, 81, c25, [.tmp 4]⟩
theorem xp_ : as_ prog Tryz.f25 rP_ := ts_
theorem iq_ {lo : Nat} {H : List Row} {j : ac_} {L l1 l2 : Nat} (B : JB lo H j L l1 l2) (l : List ab_) (hl : ar_ ab_.sz l ≤ 1048576) (hj : bb_ j = true) (hi : bl_ l = true) {K : AV → List Row → Prop}
 (hbad : bK_ j l = true → K (.val (.int .i64 4)) H)
 (hgood : bK_ j l = false → ∀ H', JB lo H' (fC_ j l) L l1 l2 → H.length ≤ H'.length → (∀ i, i ≠ L → i ≠ l2 → i < H.length → H'[i]? = H[i]?) → K (.val (.int .i64 0)) H') : callSem prog 25 [.ptr L 1 0 0, .list 0 6 (l.map ab_.cells)] H K := by
 refine bg_ mixed Tryz.func25 xp_ (b4_ rfl ?_)
 obtain ⟨j1, j2, j3, j4, j5, j6, j7, j8⟩ := ep_ hj
 obtain ⟨c1, c2⟩ := jK_ (j := j) hi
 have o0 := B.box
 have o1 := B.disk.secs
 have o2 := B.disk.puts
 have n1 := B.ne1
 have n2 := B.ne2
 have n3 := B.disk.lt
 have k0 := (List.getElem?_eq_some_iff.1 o0).1
 have k1 := (List.getElem?_eq_some_iff.1 o1).1
 have k2 := (List.getElem?_eq_some_iff.1 o2).1
 by_cases b1 : j.Last = 2000000000
 ·have hb : bK_ j l = true := by simp [bK_, b1]
  simp (disch := (first | omega | (simp only [ls_, la_, lc_, ln_]; first | done | omega))) only [go_sem, reduceCtorEq, ↓reduceIte, rP_, c25, o0, b1]
  exact hbad hb
 have b1' : ¬ (2000000000 : Int) ≤ j.Last := by omega
 simp (disch := (first | omega | (simp only [ls_, la_, lc_, ln_]; first | done | omega))) only [go_sem, reduceEqDiff, reduceCtorEq, ↓reduceIte, rP_, c25, o0, b1, az_]
 refine aa_.call (jn_ l hl hi _) ?_
 simp (disch := (first | omega | (simp only [ls_, la_, lc_, ln_]; first | done | omega))) only [go_sem, reduceEqDiff, reduceCtorEq, ↓reduceIte, o0, az_]
 refine aa_.call (kj_ j l hj hi _) ?_
 simp (disch := (first | omega | (simp only [ls_, la_, lc_, ln_]; first | done | omega))) only [go_sem, reduceEqDiff, reduceCtorEq, ↓reduceIte, o0]
 have hcnt : aa_ prog 46 [.own l1 j.Disk.Sectors.length] H (.val (.int .i64 j.Disk.Sectors.length)) := AW.frozen (n := 2) (bc_ j.Disk.Sectors) (eZ_ (hL_ (n := 0) o1 (cW_ _) (qu_ _)))
 refine aa_.q (bc_ (aT_ j l) _) ?_
 simp (disch := omega) only [az_, go_sem]
 refine aa_.q hcnt ?_
 by_cases b2 : (j.Disk.Sectors.length : Int) < j.At + (aT_ j l).length
 ·have hb : bK_ j l = true := by simp [bK_, b2]
  simp (disch := (first | omega | (simp only [ls_, la_, lc_, ln_]; first | done | omega))) only [go_sem, reduceEqDiff, ↓reduceIte, b2]
  exact hbad hb
 by_cases b3 : (400 : Int) < (j.Disk.Puts.length : Int) + (aT_ j l).length
 ·have hb : bK_ j l = true := by
   have : 400 < j.Disk.Puts.length + (aT_ j l).length := by omega
   simp [bK_, this]
  simp (disch := (first | omega | (simp only [ls_, la_, lc_, ln_]; first | done | omega))) only [go_sem, reduceEqDiff, reduceCtorEq, ↓reduceIte, o0, o2, b2, b3, e8_, cW_, az_]
  exact hbad hb
 have hb : bK_ j l = false := by
  have : ¬ 400 < j.Disk.Puts.length + (aT_ j l).length := by omega
  simp only [bK_, decide_eq_false b1', decide_eq_false b2, decide_eq_false this, Bool.or_self]
 have hg := hgood hb
 have hsz : ∀ s ∈ aT_ j l, s.size = 128 := fN_ _ _ _
 simp (disch := (first | omega | (simp only [ls_, la_, lc_, ln_]; first | done | omega))) only [go_sem, reduceEqDiff, reduceCtorEq, ↓reduceIte, o0, o2, b2, b3, e8_, cW_, az_]
 refine aJ_ (fun n t h => ∃ k : Nat, t 0 = .ptr L 1 0 0 ∧ t 51 = .list 0 1 ((aT_ j l).map ax_) ∧ t 52 = .val (.int .i64 (aT_ j l).length) ∧ t 53 = .val (.int .i64 k) ∧ JB lo h (jAt j ((aT_ j l).take k)) L l1 l2 ∧ H.length ≤ h.length ∧ (∀ i, i ≠ L → i ≠ l2 → i < H.length → h[i]? = H[i]?) ∧ n = (aT_ j l).length - k ∧ k ≤ (aT_ j l).length) (aT_ j l).length ⟨0, rfl, rfl, rfl, rfl, by rw [take_zero, jb_]; exact B, Nat.le_refl _, fun _ _ _ _ => rfl, rfl, Nat.zero_le _⟩ ?_
 clear o0 o1 o2 hcnt
 rintro J hJ n t h ⟨k, t0, t51, t52, t53, B1, hle, hkp, rfl, hk⟩
 have o0 := B1.box
 have k0 := (List.getElem?_eq_some_iff.1 o0).1
 by_cases hlt : k < (aT_ j l).length
 ·have hpl := jI_ (j := j) (cs := aT_ j l) hk
  have hnx := hX_ j ((aT_ j l).take k) (aT_ j l)[k]
  have hat : (jAt j ((aT_ j l).take k)).At ≤ 2000 := by simp only [jAt, length_take]; omega
  have hat0 : 0 ≤ (jAt j ((aT_ j l).take k)).At := by simp only [jAt]; omega
  rw [← take_succ_eq_append_getElem hlt] at hnx
  generalize jAt j ((aT_ j l).take k) = x at *
  simp (disch := (first | omega | (simp only [ls_, la_, lc_, ln_]; first | done | omega))) only [go_sem, reduceEqDiff, reduceCtorEq, ↓reduceIte, t0, t51, t52, t53, o0, hlt, ax_]
  refine jp_ B1 x.At (aT_ j l)[k] (by omega) (fun H' B2 hl2 hk2 => ?_)
  have o3 := B2.box
  dsimp only at o3
  have k3 := (List.getElem?_eq_some_iff.1 o3).1
  simp (disch := (first | omega | (simp only [ls_, la_, lc_, ln_]; first | done | omega))) only [go_sem, reduceEqDiff, Nat.reduceAdd, reduceCtorEq, ↓reduceIte, t0, t53, o3, az_]
  refine ⟨(aT_ j l).length - (k + 1), by omega, hJ _ _ _ ⟨k + 1, by simp [upd, t0], by simp [upd, t51], by simp [upd, t52], by simp [upd], ?_, by simp only [ls_]; omega, ?_, rfl, by omega⟩⟩
  ·rw [hnx]
   refine ⟨?_, ⟨?_, ?_, n3, B.disk.lo1⟩, n1, n2, B.lo0⟩
   ·rw [bX_ k3]; rfl
   ·rw [bo_ n1]; exact B2.disk.secs
   ·rw [bo_ n2]; exact B2.disk.puts
  ·intro i i1 i2 i3
   rw [bo_ (fun q => i1 q.symm), hk2 i i1 i2 (by omega), hkp i i1 i2 i3]
 have hke : (aT_ j l).take k = aT_ j l := take_of_length_le (by omega)
 rw [hke] at o0 B1
 have hls : (jAt j (aT_ j l)).Last = j.Last := rfl
 simp (disch := (first | omega | (simp only [ls_, la_, lc_, ln_]; first | done | omega))) only [go_sem, reduceEqDiff, Nat.reduceAdd, reduceLeDiff, reduceCtorEq, ↓reduceIte, t0, t52, t53, o0, hlt, hls, az_]
 refine hg _ ⟨?_, ⟨?_, ?_, n3, B.disk.lo1⟩, n1, n2, B.lo0⟩ (by simp only [ls_]; omega) ?_
 ·rw [bX_ k0]; rfl
 ·rw [bo_ n1]; exact B1.disk.secs
 ·rw [bo_ n2]; exact B1.disk.puts
 ·intro i i1 i2 i3
  rw [bo_ (fun q => i1 q.symm), hkp i i1 i2 i3]
theorem JB.fresh {lo : Nat} {H : List Row} {j : ac_} {L l1 l2 : Nat} (B : JB lo H j L l1 l2) : dp_ lo H (.agg [.val (.int .i64 j.Disk.Wide), .own l1 j.Disk.Sectors.length, .own l2 j.Disk.Puts.length, .val (.int .i64 j.Life), .val (.int .i64 j.From), .val (.int .i64 j.Last), .val (.int .i64 j.At)]) (.agg (ac_.cells j)) :=
 (aN_.agg (hi := l2 + 1) (at_.val _ (at_.cons (gf_ B.disk.secs (cW_ _) B.disk.lo1 (lA_ _)) (at_.cons (gf_ B.disk.puts (e8_ _) (Nat.succ_le_of_lt B.disk.lt) (mE_ _)) (at_.val _ (at_.val _ (at_.val _ (at_.val _ (at_.nil _ _ _))))) ⟨by have := B.disk.lt; omega, Nat.le_refl _⟩) ⟨by have := B.disk.lo1; omega, by have := B.disk.lt; omega⟩))).fresh
def JQ (a : AV) : Prop := ∃ w s p c1 c2 c3 c4, s.cell = true ∧ p.cell = true ∧ ∃ c, a = .tup [.agg [.val (.int .i64 w), s, p, .val (.int .i64 c1), .val (.int .i64 c2), .val (.int .i64 c3), .val (.int .i64 c4)], .val (.int .i64 c)]
theorem hA_ {H : List Row} {lo : Nat} (c : Int) (hl : lo ≤ H.length) : dp_ lo H (mt_ c) (.tup [.agg (ac_.cells fs_), .val (.int .i64 c)]) :=
 (aN_.tup (at_.cons (aN_.agg (at_.val _ (at_.cons (aN_.mknil lo lo H 1) (at_.cons (aN_.mknil lo H.length H 2) (at_.val _ (at_.val _ (at_.val _ (at_.val _ (at_.nil _ _ _))))) ⟨hl, Nat.le_refl _⟩) ⟨Nat.le_refl _, hl⟩))) (at_.val _ (at_.nil H.length H.length H)) ⟨hl, Nat.le_refl _⟩)).fresh
def c9 : LC :=
 .q [.o [.bx 2 35 0, .s 4 (.alloc 35 z0z), .ki 5 0], .q [.o [.ld 8 7 2, .c1 9 22 8, .nt 10 9, .m 11 10, .gm 12 11 false 1, .gc 13 11 false 23 12, .gu 14 11 false 13, .pt 15 11 14], .k 15 (.q [.o [.s 16 (.build z0z [(0,
 3), (3, 1), (4, 1), (5, 1), (6, 1)] []), .st 7 4 16, .ki 5 1], .ret]) .skip], .o [.ld 17 7 2, .c1 18 24 17, .m 6 18], .q [.o [.m 19 6, .m 20 1, .c2 21 25 19 20, .m 7 21], .o [.m 22 7, .bk 23 .neq false 22 0], .k 23 (.q
 [.o [.s 24 (.build z0z [(0, 3), (3, 1), (4, 1), (5, 1), (6, 1)] []), .m 25 7, .st 7 4 24, .m 5 25], .ret]) .skip], .o [.m 26 6, .nc 27 26, .ld 28 7 27, .st 7 4 28, .ki 5 0], .ret]
def lf9 : LF := ⟨2, 29, c9, [.cell 4 (some 7), .tmp 5]⟩
theorem x3_ : as_ prog Tryz.f9 lf9 := al_
theorem dY_ (j : ac_) (l : List ab_) (hj : ac_.sz j ≤ 1048576) (hl : ar_ ab_.sz l ≤ 1048576) : bA_ prog 9 [.agg (ac_.cells j), .list 0 6 (l.map ab_.cells)] (.tup [.agg (ac_.cells (a7_ j l).1), .val (.int .i64 (a7_ j l).2)]) JQ := by
 refine lB_ mixed Tryz.func9 x3_ rfl (fun h0 => ?_)
 have hd := ac_.sz_Disk hj
 have hs := bq_ (aq_.sz_Sectors hd)
 have hp := bq_ (aq_.sz_Puts hd)
 simp (disch := omega) only [lf9, c9, dE_, go_sem, reduceEqDiff, Nat.reduceAdd, ↓reduceIte]
 refine aa_.call (ji_ j hj _) ?_
 by_cases q1 : bb_ j = true
 case neg =>
  have q1' : bb_ j = false := by simpa using q1
  have e : a7_ j l = (fs_, 1) := by rw [a7_, if_neg (by simp [q1'])]
  rw [e]
  simp (disch := omega) only [q1', cy_, Option.map_some, bU_, go_sem, reduceEqDiff, Nat.reduceAdd, ↓reduceIte]
  exact ⟨⟨bk_.app _ _, (hA_ 1 (by simp)).b⟩, ⟨_, _, _, _, _, _, _, rfl, rfl, _, rfl⟩⟩
 by_cases q2 : bl_ l = true
 case neg =>
  have q2' : bl_ l = false := by simpa using q2
  have e : a7_ j l = (fs_, 1) := by rw [a7_, if_neg (by simp [q2'])]
  rw [e]
  simp (disch := omega) only [q1, go_sem, reduceEqDiff, ↓reduceIte]
  first | refine aa_.call (cU_ l hl _) ?_ | refine aa_.q (cU_ l hl _) ?_
  simp (disch := omega) only [q2', cy_, Option.map_some, bU_, go_sem, reduceEqDiff, Nat.reduceAdd, ↓reduceIte]
  exact ⟨⟨bk_.app _ _, (hA_ 1 (by simp)).b⟩, ⟨_, _, _, _, _, _, _, rfl, rfl, _, rfl⟩⟩
 simp (disch := omega) only [q1, go_sem, reduceEqDiff, ↓reduceIte]
 first | refine aa_.call (cU_ l hl _) ?_ | refine aa_.q (cU_ l hl _) ?_
 simp (disch := omega) only [q2, go_sem, reduceEqDiff, Nat.reduceAdd, ↓reduceIte]
 refine ip_ j hs hp (fun H1 L l1 l2 m1 B => ?_)
 have p0 := m1.at (i := h0.length) (ed_ rfl)
 have p1 := m1.at (i := h0.length + 1) (hf_ rfl)
 have ml := m1.len
 have b0 := B.lo0
 have bl := B.disk.lo1
 have n3 := B.disk.lt
 simp only [la_, lc_, ln_] at ml b0 bl
 have o0 := B.box
 have k0 := (List.getElem?_eq_some_iff.1 o0).1
 simp (disch := (first | omega | (simp only [ls_, la_, lc_, ln_]; first | done | omega))) only [go_sem, reduceEqDiff, ↓reduceIte]
 refine iq_ B l hl q1 q2 (fun hb => ?_) (fun hb H2 B2 hle hkp => ?_)
 ·have e : a7_ j l = (fs_, 4) := by rw [a7_, if_pos (by simp [q1, q2]), if_pos hb]
  rw [e]
  simp (disch := (first | omega | (simp only [ls_, la_, lc_, ln_]; first | done | omega))) only [bX_, go_sem, reduceEqDiff, Nat.reduceAdd, ↓reduceIte, p1, cy_, Option.map_some, bU_, Int.reduceEq, decide_false, Bool.not_false]
  exact ⟨⟨((bk_.app h0 _).trans m1).set (by omega), (hA_ 4 (by simp only [ls_]; omega)).b⟩, ⟨_, _, _, _, _, _, _, rfl, rfl, _, rfl⟩⟩
 ·have e : a7_ j l = (fC_ j l, 0) := by rw [a7_, if_pos (by simp [q1, q2]), if_neg (by simp [hb])]
  rw [e]
  have r0 := B2.box
  have r1 := (hkp (h0.length + 1) (by omega) (by omega) (by omega)).trans p1
  have k2 := (List.getElem?_eq_some_iff.1 r0).1
  simp (disch := (first | omega | (simp only [ls_, la_, lc_, ln_]; first | done | omega))) only [bX_, go_sem, reduceEqDiff, Nat.reduceAdd, ↓reduceIte, r0, r1, bU_]
  have m0 : bk_ h0 H1 := (bk_.app h0 _).trans m1
  have m2 : bk_ h0 H2 := ⟨by omega, fun i hi => (hkp i (by omega) (by omega) (by omega)).trans (m0.kept i hi)⟩
  have B3 : JB h0.length (H2.set (h0.length + 1) ⟨35, 7, [[.val (.int .i64 (fC_ j l).Disk.Wide), .own l1 (fC_ j l).Disk.Sectors.length, .own l2 (fC_ j l).Disk.Puts.length, .val (.int .i64 (fC_ j l).Life), .val (.int .i64 (fC_ j l).From), .val (.int .i64 (fC_ j l).Last), .val (.int .i64 (fC_ j l).At)]]⟩) (fC_ j l) L l1 l2 := ⟨by rw [bo_ (by omega)]; exact B2.box, ⟨by rw [bo_ (by omega)]; exact B2.disk.secs, by rw [bo_ (by omega)]; exact B2.disk.puts, n3, by omega⟩, B2.ne1, B2.ne2, by omega⟩
  exact ⟨⟨m2.set (by omega), aN_.pair B3.fresh.b (by simp only [ls_]; omega) _⟩, ⟨_, _, _, _, _, _, _, rfl, rfl, _, rfl⟩⟩
theorem hp_ {α : Type} (f : α → Nat) (c : Nat) : ∀ xs : List α, (∀ x ∈ xs, f x ≤ c) → ar_ f xs ≤ xs.length * (c + 1)
 | [], _ => by simp [ar_, cq_]
 | x :: r, h => by
  have h1 := h x (mem_cons_self ..)
  have h2 := hp_ f c r fun y hy => h y (mem_cons_of_mem _ hy)
  simp only [ar_, cq_, lc_, Nat.add_mul, Nat.one_mul] at *
  omega
theorem qU_ {d : aq_} (h : b6_ d = true) (hw : d.Wide = 128) : aq_.sz d ≤ 103200 := by
 simp only [b6_, br_, Bool.and_eq_true, Bool.not_eq_true', decide_eq_true_eq, decide_eq_false_iff_not] at h
 obtain ⟨⟨⟨⟨q1, q2⟩, q3⟩, q4⟩, q5⟩ := h
 have h1 : ∀ s ∈ d.Sectors, ByteArray.size s ≤ 128 := fun s hs => by
  have := any_eq_false.1 q4 s hs
  simp only [d5_, hw, Bool.not_eq_true', decide_eq_false_iff_not] at this
  simp at this
  omega
 have h2 : ∀ p ∈ d.Puts, ao_.sz p ≤ 128 := fun p hp => by
  have := any_eq_false.1 q5 p hp
  simp [b7_, hw] at this
  show ByteArray.size p.Bytes ≤ 128
  omega
 have e1 := hp_ ByteArray.size 128 d.Sectors h1
 have e2 := hp_ ao_.sz 128 d.Puts h2
 show ar_ ByteArray.size d.Sectors + ar_ ao_.sz d.Puts ≤ 103200
 have e3 : d.Sectors.length * (128 + 1) ≤ 400 * 129 := Nat.mul_le_mul_right _ (by omega)
 have e4 : d.Puts.length * (128 + 1) ≤ 400 * 129 := Nat.mul_le_mul_right _ (by omega)
 omega
theorem qL_ (j : ac_) (l : List ab_) : ac_.sz (a7_ j l).1 ≤ 1048576 := by
 unfold a7_
 split
 ·rename_i q
  split
  ·simp [ac_.sz, aq_.sz, fs_, ar_, cq_]
  ·rename_i b
   rw [Bool.and_eq_true] at q
   obtain ⟨j1, j2, j3, j4, j5, j6, j7, j8⟩ := ep_ q.1
   have hsz : ∀ s ∈ aT_ j l, s.size = 128 := fN_ _ _ _
   have b' : bK_ j l = false := by simpa using b
   simp only [bK_, Bool.or_eq_false_iff, decide_eq_false_iff_not] at b'
   obtain ⟨⟨b1, b2⟩, b3⟩ := b'
   have hok := nH_ j1 j2 j6.1 hsz (by omega) (aT_ j l).length (Nat.le_refl _) (by omega)
   rw [take_of_length_le (Nat.le_refl _)] at hok
   have := qU_ hok j2
   show aq_.sz (jAt j (aT_ j l)).Disk ≤ 1048576
   omega
 ·simp [ac_.sz, aq_.sz, fs_, ar_, cq_]
end Go.Proofs.YthahmhkbcdpkjabGreatDoor
