/-
 Contracts of functions. Conditions: as each theorem says.
-/
import Derived.Test.YthahmhkbcdpkjabGreatDoorFnKA
import Derived.Test.YthahmhkbcdpkjabGreatDoorAwBits
import Derived.Test.YthahmhkbcdpkjabGreatDoorPlKey
import Derived.Test.YthahmhkbcdpkjabGreatDoorAwC
namespace Go.Proofs.YthahmhkbcdpkjabGreatDoor
open List
open Go.AW
set_option linter.unusedVariables false
set_option linter.unusedSimpArgs false
set_option maxRecDepth 4000
open Nat (reduceEqDiff reduceLeDiff)
open Tryz (prog)
abbrev jY_ (b : Nat) : AV := .val (.pointer (some ⟨b, 0, none⟩))
theorem o9_ {b : Nat} {l : List UInt8} {c : UInt8} {K : AV → Bd → Prop} (hlen : l.length + 1 ≤ 140737488355328) (hk : K (.val .nilIface) (Bd.of b (l ++ [c]))) : fn_ Tryz.prog 112 5 153 [jY_ b, .val (.int .u8 c.toNat)] (Bd.of b (l)) K :=
 i1_ (vals := [.int .u8 c.toNat]) (r := .nilIface) (new := [c]) (fun B w h hB => (Any.Builder_WriteByte_k Tryz.lays167 Tryz.Builder_Extra_167 B b (Lib.byteCells l) c.toNat w h (by rw [Lib.byteCells_length]; exact hlen) hB).mono (by
  rintro en w' ⟨rfl, h1, h2, _⟩
  refine ⟨rfl, .inr ?_, h2⟩
  have e : Lib.byteCells (l ++ [c]) = Lib.byteCells l ++ [.int .u8 c.toNat] := by simp [Lib.byteCells]
  rw [e]; exact h1)) hk
theorem oO_ {b : Nat} {l s : List UInt8} {K : AV → Bd → Prop} (hlen : l.length + s.length ≤ 140737488355328) (hk : ∀ r : Value, K (.val r) (Bd.of b (l ++ s))) : fn_ Tryz.prog 112 5 85 [jY_ b, .val (.string (txt s))] (Bd.of b (l)) K :=
 i1_ (vals := [.string (txt s)]) (r := .tuple #[.int .i64 (txt s).size, .nilIface]) (new := s) (fun B w h hB => (Any.Builder_WriteString_k Tryz.lays166 Tryz.Builder_Extra_166 B b (Lib.byteCells l) (txt s) w h (by rw [Lib.byteCells_length, bL_]; exact hlen) hB).mono (by
  rintro en w' ⟨rfl, h1, h2, _⟩
  refine ⟨rfl, .inr ?_, h2⟩
  have e : Lib.byteCells (l ++ s) = Lib.byteCells l ++ Lib.strCells (txt s) := by simp [Lib.byteCells, Lib.strCells, txt]
  rw [e]; exact h1)) (hk _)
theorem sL_ {b : Nat} {l : List UInt8} {K : AV → Bd → Prop} (hk : K (.val (.string (txt l))) (Bd.of b (l))) : fn_ Tryz.prog 112 5 88 [jY_ b] (Bd.of b (l)) K := by
 refine i1_ (vals := []) (r := .string (txt l)) (new := []) (fun B w h hB => (Any.Builder_String_any_k Tryz.lays169 Tryz.Builder_Extra_169 B b l w h hB).mono (by
  rintro en w' ⟨rfl, h1, h2, _⟩
  refine ⟨rfl, ?_, h2⟩
  rw [append_nil]; exact h1)) (by rw [append_nil]; exact hk)
theorem hN_ (s : List UInt8) (hs : s.length ≤ 1048576) (h : List Row) : aa_ Tryz.prog 154 [.val (.string (txt s)), .val (.string (txt [0])), .val (.string (txt [0, 255]))] h (.val (.string (txt (esc s)))) := by
 refine n3_ (vals := [.string (txt s), .string (txt [0]), .string (txt [0, 255])]) (fun w hM => ?_) h
 obtain ⟨m, hm⟩ := hM (Tryz.lays155_ren.g 1) (by kernel_rfl)
 have hc : Lib.countB (txt s) (txt [0]) ≤ s.length := by
  show Lib.count (txt s).data.toList (txt [0]).data.toList ≤ _
  rw [bu_, bu_, Lib.count_one]; exact count_le_length
 have := Any.strings_ReplaceAll Tryz.lays155 Tryz.Builder_Extra_155 (txt s) (txt [0]) (txt [0, 255]) m w (by rw [bL_]; omega) hm (by rw [bL_]; decide) (by rw [bL_, bL_]; simp only [lc_, ln_]; omega)
 rw [bu_, bu_, bu_, k4_] at this
 exact this
theorem tP_ (n k : Nat) (h : k < (be8 n).length) : (be8 n)[k] = cL_ n (7 - k) := by
 rw [gr_] at h
 rcases (by omega : k = 0 ∨ k = 1 ∨ k = 2 ∨ k = 3 ∨ k = 4 ∨ k = 5 ∨ k = 6 ∨ k = 7) with e | e | e | e | e | e | e | e <;> subst e <;> rfl
theorem m1_ (n k : Nat) (h : k < 8) : (be8 n).take (k + 1) = (be8 n).take k ++ [cL_ n (7 - k)] := by
 rw [take_succ_eq_append_getElem (by rw [gr_]; exact h), tP_]
theorem ov_ (n k : Nat) (h : k = 8) : (be8 n).take k = be8 n := by subst h; rfl
theorem uL_ (n k : Nat) (h : k < 8) : IntKind.u8.wrap ((n : Int).fdiv (2 ^ min (56 - 8 * (k : Int)).toNat 64)) = ((cL_ n (7 - k)).toNat : Int) := by
 have e : (56 - 8 * (k : Int)).toNat = (8 * ((7 - k : Nat) : Int)).toNat := by omega
 rw [e, mC_ _ _ (by omega), kp_]
def vu_ : LC :=
 .q [.q [.o [.m 6 1, .c1 7 116 6], .k 7 (.q [.o [.m 8 1, .c1 9 118 8, .bk 10 .add false 9 1000000000000000000, .s 11 (.convInt .u64 (.tmp 10)), .m 4 11], .o [.m 12 0, .s 13 (.call 153 [.tmp 12, .const (.int .u8 1)])], .q
 [.o [.ki 5 56], .block 0 (.loop (.q [.q [.o [.m 14 5, .bk 15 .geq false 14 0], .k 15 .skip (.exit 0)], .block 1 (.o [.m 18 0, .m 19 4, .m 20 5, .bb 21 .shr false 19 20, .s 22 (.convInt .u8 (.tmp 21)), .c2 23 153 18 22]),
 .o [.m 16 5, .bk 17 .sub false 16 8, .m 5 17]]))], .ret]) .skip], .o [.m 24 0, .s 25 (.call 153 [.tmp 24, .const (.int .u8 2)])], .o [.m 26 0, .m 27 1, .s 28 (.call 154 [.tmp 27, .const (.string ⟨#[0]⟩), .const (.string
 ⟨#[0, 255]⟩)]), .c2 29 85 26 28], .o [.m 30 0, .s 31 (.call 85 [.tmp 30, .const (.string ⟨#[0, 0]⟩)])]]
def sJ_ : LF := ⟨2, 32, vu_, []⟩
theorem u4_ : as_ Tryz.prog Tryz.f136 sJ_ := al_
theorem mf_ {b : Nat} {l : List UInt8} {s : ByteArray} (hs : s.size ≤ 1048576) (hl : l.length ≤ 1000000000) {K : AV → Bd → Prop} (hk : K (.tup []) (Bd.of b (l ++ cZ_ (bs s)))) : fn_ Tryz.prog 112 5 136 [jY_ b, .val (.string s)] (Bd.of b (l)) K := by
 refine j6_ (by decide) mixed Tryz.func136 u4_ rfl ?_
 simp (disch := omega) only [sJ_, vu_, go_sem, ↓reduceIte]
 refine aa_.b rfl (cV_ s hs _) ?_
 have hbl : (bs s).length = s.size := c1_ s
 by_cases q : b2_ (bs s) = true
 ·simp (disch := omega) only [q, go_sem, Nat.reduceEqDiff, ↓reduceIte]
  refine aa_.b rfl (dw_ s hs _) ?_
  have hn := d7_ (bs s)
  have hq := ly_ (bs s)
  have hq2 := lx_ (bs s)
  have hkey : cZ_ (bs s) = 1 :: be8 (c4_ (bs s)) := by unfold cZ_; rw [if_pos q]
  rw [hkey] at hk
  simp (disch := omega) only [go_sem, reduceCtorEq, ↓reduceIte, az_, ← hq, qW_]
  refine o9_ (c := 1) (by omega) ?_
  simp (disch := omega) only [go_sem]
  refine jJ_ (fun n t σ => ∃ k : Nat, t 0 = jY_ b ∧ t 4 = .val (.int .u64 (c4_ (bs s))) ∧ t 5 = .val (.int .i64 (56 - 8 * k)) ∧ σ = Bd.of b ((l ++ [1]) ++ (be8 (c4_ (bs s))).take k) ∧ n = 8 - k ∧ k ≤ 8) 8 ?_ ?_
  ·exact ⟨0, rfl, rfl, rfl, by simp, rfl, by omega⟩
  ·rintro J hJ n t σ ⟨k, t0, t4, t5, rfl, rfl, hk8⟩
   by_cases h8 : k < 8
   ·have hlt : (0 : Int) ≤ 56 - 8 * k := by omega
    have hlen : ((be8 (c4_ (bs s))).take k).length ≤ 8 := by rw [length_take, gr_]; omega
    simp (disch := omega) only [t0, t4, t5, hlt, jg_, uL_, go_sem, Nat.reduceEqDiff, reduceCtorEq, ↓reduceIte]
    refine o9_ (by simp only [la_, lc_]; omega) ?_
    simp (disch := omega) only [t5, az_, go_sem, Nat.reduceEqDiff, ↓reduceIte]
    exact ⟨8 - (k + 1), by omega, hJ _ _ _ ⟨k + 1, by simp [upd, t0], by simp [upd, t4], by simp [upd]; omega, by rw [m1_ _ _ h8]; simp, rfl, by omega⟩⟩
   ·have hlt : ¬ (0 : Int) ≤ 56 - 8 * k := by omega
    simp (disch := omega) only [t5, hlt, go_sem, ↓reduceIte]
    rw [ov_ _ _ (by omega)]
    simpa using hk
 ·have q' : b2_ (bs s) = false := by simpa using q
  have hkey : cZ_ (bs s) = 2 :: (esc (bs s) ++ [0, 0]) := by unfold cZ_; rw [if_neg q]
  have he := ig_ (bs s)
  rw [hkey] at hk
  simp (disch := omega) only [q', go_sem, reduceCtorEq, ↓reduceIte]
  refine o9_ (c := 2) (by omega) ?_
  simp (disch := omega) only [go_sem, Nat.reduceEqDiff, reduceCtorEq, ↓reduceIte]
  refine aa_.b rfl (by
   have := hN_ (bs s) (by omega) []
   rw [eN_] at this
   exact this) ?_
  simp (disch := omega) only [go_sem, Nat.reduceEqDiff, ↓reduceIte]
  refine oO_ (by simp only [la_, lc_, ln_]; omega) (fun r1 => ?_)
  simp (disch := omega) only [go_sem, reduceCtorEq, ↓reduceIte]
  refine oO_ (by simp only [la_, lc_, ln_]; omega) (fun r2 => ?_)
  simp (disch := omega) only [go_sem]
  simpa using hk
def ho_ (xs : List ByteArray) : List UInt8 := if cK_ xs = true then e1_ (bss xs) else []
theorem mX_ (xs ys : List (List UInt8)) : e1_ (xs ++ ys) = e1_ xs ++ e1_ ys := by simp [e1_]
theorem gt_ {xs : List ByteArray} (h : cK_ xs = true) : xs.length ≤ 4 ∧ ∀ x ∈ xs, 1 ≤ x.size ∧ x.size ≤ 24 := by
 simp only [cK_, Bool.and_eq_true, decide_eq_true_eq, all_eq_true, dP_] at h
 exact ⟨by omega, fun x hx => by have := h.2 x hx; omega⟩
theorem id_ : ∀ (xs : List ByteArray), (∀ x ∈ xs, x.size ≤ 24) → (e1_ (bss xs)).length ≤ 57 * xs.length
 | [], _ => by simp [e1_, bss]
 | x :: xs, h => by
  have h1 := iB_ (bs x)
  have h2 := id_ xs (fun y hy => h y (mem_cons_of_mem _ hy))
  have h3 := h x mem_cons_self
  rw [c1_] at h1
  rw [bss, map_cons, qM_, la_, lc_]
  simp only [bss] at h2
  simp only [bs] at h1
  omega
def vZ_ : LC :=
 .q [.o [.s 2 (.mov (.const (.string ⟨#[]⟩)))], .q [.o [.m 6 0, .c1 7 99 6, .nt 8 7], .k 8 (.q [.o [.s 2 (.mov (.const (.string ⟨#[]⟩)))], .ret]) .skip], .o [.s 3 (.alloc 112 (.agg #[.pointer none, .slice none 0 0]))], .q
 [.o [.m 9 0, .ll 10 9, .ki 11 0], .block 0 (.loop (.q [.o [.bb 12 .lss false 11 10], .k 12 .skip (.exit 0), .block 1 (.q [.o [.ia 13 1 9 11, .ln 14 13, .m 5 14], .o [.m 15 5, .c2 16 136 3 15]]), .o [.bk 17 .add false 11
 1, .m 11 17]]))], .o [.c1 18 88 3, .m 2 18], .ret]
def sA_ : LF := ⟨1, 19, vZ_, [.tmp 2]⟩
theorem vm_ : as_ Tryz.prog Tryz.f121 sA_ := al_
theorem kI_ (xs : List ByteArray) (hx : xs.length ≤ 1048576) (h : List Row) : aa_ Tryz.prog 121 [.list 0 1 (xs.map ax_)] h (.val (.string (txt (ho_ xs)))) := by
 refine iw_ (T := 112) (e := 5) rfl rfl ?_ h
 refine j6_ (by decide) mixed Tryz.func121 vm_ rfl ?_
 simp (disch := omega) only [sA_, vZ_, go_sem, reduceCtorEq, ↓reduceIte]
 refine aa_.b rfl (fA_ xs hx _) ?_
 by_cases q : cK_ xs = true
 case neg =>
  have q' : cK_ xs = false := by simpa using q
  simp (disch := omega) only [q', go_sem, ↓reduceIte]
  rw [ho_, if_neg q]
 obtain ⟨h4, hm⟩ := gt_ q
 have hz : rV_ = .agg #[.pointer none, .slice none 0 0] := rfl
 simp (disch := omega) only [q, ← hz, go_sem, reduceCtorEq, ↓reduceIte]
 refine fun b => ?_
 refine jJ_ (fun n t σ => ∃ k : Nat, t 3 = jY_ b ∧ t 9 = .list 0 1 (xs.map ax_) ∧ t 10 = .val (.int .i64 xs.length) ∧ t 11 = .val (.int .i64 k) ∧ σ = Bd.of b (e1_ (bss (xs.take k))) ∧ n = xs.length - k ∧ k ≤ xs.length) xs.length ?_ ?_
 ·exact ⟨0, rfl, rfl, rfl, rfl, rfl, rfl, by omega⟩
 ·rintro J hJ n t σ ⟨k, t3, t9, t10, t11, rfl, rfl, hk⟩
  by_cases hlt : k < xs.length
  ·have hl1 := id_ (xs.take k) (fun x hx' => (hm x (mem_of_mem_take hx')).2)
   have hl2 : (xs.take k).length ≤ 4 := by rw [length_take]; omega
   simp (disch := omega) only [t3, t9, t10, t11, hlt, go_sem, Nat.reduceEqDiff, ↓reduceIte]
   refine mf_ (by have := hm _ (getElem_mem hlt); omega) (by omega) ?_
   simp (disch := omega) only [t11, az_, go_sem, Nat.reduceEqDiff, ↓reduceIte]
   refine ⟨xs.length - (k + 1), by omega, hJ _ _ _ ⟨k + 1, by simp [upd, t3], by simp [upd, t9], by simp [upd, t10], by simp [upd], ?_, rfl, by omega⟩⟩
   rw [take_succ_eq_append_getElem hlt, bss, bss, map_append, mX_]
   simp [e1_]
  ·simp (disch := omega) only [t3, t10, t11, hlt, go_sem, Nat.reduceEqDiff, ↓reduceIte]
   rw [take_of_length_le (by omega)]
   refine sL_ ?_
   simp (disch := omega) only [go_sem, ↓reduceIte]
   rw [ho_, if_pos q]
theorem uU_ (l : List UInt8) (i : Nat) (h : i < l.length) : esc (l.drop i) = if l[i] = 0 then 0 :: 255 :: esc (l.drop (i + 1)) else l[i] :: esc (l.drop (i + 1)) := by
 rw [drop_eq_getElem_cons h, esc]
theorem sC_ (n k : Nat) (h : k < 8) : IntKind.u8.wrap ((n : Int).fdiv (2 ^ min (8 * (7 - (k : Int))).toNat 64)) = ((cL_ n (7 - k)).toNat : Int) := by
 have e : (8 * (7 - (k : Int))).toNat = (8 * ((7 - k : Nat) : Int)).toNat := by omega
 rw [e, mC_ _ _ (by omega), kp_]
theorem lv_ (l : List UInt8) (b : UInt8) : aA_ l ++ [[AV.val (.int .u8 b.toNat)]] = aA_ (l ++ [b]) := by simp [aA_]
def uC_ : LC :=
 .q [.o [.s 2 (.mov (.const (.string ⟨#[]⟩)))], .o [.s 7 (.buildSlice 5 1 (.int .u8 0) 0 []), .m 3 7], .q [.o [.m 8 0, .c1 9 122 8], .k 9 (.q [.o [.m 10 0, .c1 11 123 10, .bk 12 .add false 11 1000000000000000000, .m 4
 12], .o [.m 13 3, .s 14 (.buildSlice 5 1 (.int .u8 0) 1 [(0, .const (.int .u8 1))]), .ap 15 5 1 1 13 14, .m 3 15], .q [.o [.ki 5 7], .block 0 (.loop (.q [.q [.o [.m 16 5, .bk 17 .geq false 16 0], .k 17 .skip (.exit 0)],
 .block 1 (.o [.m 20 3, .m 21 4, .m 22 5, .s 23 (.bin .mul false (.const (.int .i64 8)) (.tmp 22)), .bb 24 .shr false 21 23, .s 25 (.convInt .u8 (.tmp 24)), .s 26 (.buildSlice 5 1 (.int .u8 0) 1 [(0, .tmp 25)]), .ap 27 5
 1 1 20 26, .m 3 27]), .o [.m 18 5, .bk 19 .sub false 18 1, .m 5 19]]))], .o [.m 28 3, .s 29 (.toStr (.tmp 28)), .m 2 29], .ret]) .skip], .o [.m 30 3, .s 31 (.buildSlice 5 1 (.int .u8 0) 1 [(0, .const (.int .u8 2))]), .ap
 32 5 1 1 30 31, .m 3 32], .q [.o [.ki 6 0], .block 2 (.loop (.q [.q [.o [.m 33 6, .m 34 0, .s 35 (.lenStr (.tmp 34)), .bb 36 .lss false 33 35], .k 36 .skip (.exit 2)], .block 3 (.q [.o [.m 39 3, .m 40 0, .m 41 6, .s 42
 (.indexStr (.tmp 40) (.tmp 41)), .s 43 (.buildSlice 5 1 (.int .u8 0) 1 [(0, .tmp 42)]), .ap 44 5 1 1 39 43, .m 3 44], .o [.m 45 0, .m 46 6, .s 47 (.indexStr (.tmp 45) (.tmp 46)), .s 48 (.bin .eql false (.tmp 47) (.const
 (.int .u8 0)))], .k 48 (.o [.m 49 3, .s 50 (.buildSlice 5 1 (.int .u8 0) 1 [(0, .const (.int .u8 255))]), .ap 51 5 1 1 49 50, .m 3 51]) .skip]), .o [.m 37 6, .bk 38 .add false 37 1, .m 6 38]]))], .o [.m 52 3, .s 53
 (.buildSlice 5 1 (.int .u8 0) 2 [(0, .const (.int .u8 0)), (1, .const (.int .u8 0))]), .ap 54 5 1 1 52 53, .s 55 (.toStr (.tmp 54)), .m 2 55], .ret]
def ss_ : LF := ⟨1, 56, uC_, [.tmp 2]⟩
theorem uh_ : as_ Tryz.prog Tryz.f124 ss_ := al_
theorem ll_ (l : List UInt8) (hl : l.length ≤ 1048576) (h : List Row) : aa_ Tryz.prog 124 [.val (.string (txt l))] h (.val (.string (txt (cZ_ l)))) := by
 refine ah_ mixed Tryz.func124 uh_ rfl rfl ?_ h
 simp (disch := omega) only [ss_, uC_, go_sem, reduceCtorEq, ↓reduceIte]
 refine aa_.call (gI_ l (by omega) _) ?_
 by_cases q : b2_ l = true
 ·simp (disch := omega) only [q, go_sem, reduceCtorEq, ↓reduceIte]
  refine aa_.call (f3_ l (by omega) _) ?_
  have hn := d7_ l
  have hq := ly_ l
  have hq2 := lx_ l
  have hkey : cZ_ l = 1 :: be8 (c4_ l) := by unfold cZ_; rw [if_pos q]
  simp (disch := omega) only [az_, ← hq, go_sem, reduceEqDiff, reduceLeDiff, ↓reduceIte]
  refine ⟨by omega, ?_⟩
  try simp (disch := omega) only [az_, ← hq, go_sem, reduceEqDiff, Nat.reduceAdd, reduceLeDiff, reduceCtorEq, Int.reduceLT, Int.reduceLE, Int.reduceNeg, Int.reduceSub, Int.reduceAdd, Int.reduceToNat, ↓reduceIte]
  refine aJ_ (fun n t h => ∃ (k : Nat) (rest : List Row), t 3 = .own 0 (1 + k) ∧ t 4 = .val (.int .i64 (c4_ l)) ∧ t 5 = .val (.int .i64 (7 - k)) ∧ h = ⟨5, 1, aA_ (1 :: (be8 (c4_ l)).take k)⟩ :: rest ∧ n = 8 - k ∧ k ≤ 8) 8 ?_ ?_
  ·exact ⟨0, _, rfl, rfl, rfl, rfl, rfl, by omega⟩
  rintro J hJ n t h ⟨k, rest, t3, t4, t5, rfl, rfl, hk⟩
  have fl : (aA_ (1 :: (be8 (c4_ l)).take k)).length = 1 + k := by
   rw [cI_, lc_, length_take, gr_]; omega
  by_cases hlt : k < 8
  ·have hg : (0 : Int) ≤ 7 - k := by omega
   simp (disch := omega) only [t3, t4, t5, hg, fl, k8_, jg_, az_, sC_, go_sem, reduceEqDiff, reduceLeDiff, ↓reduceIte]
   refine ⟨by omega, by omega, ?_⟩
   try simp (disch := omega) only [t3, t4, t5, hg, fl, k8_, jg_, az_, sC_, go_sem, reduceEqDiff, Nat.reduceAdd, reduceLeDiff, reduceCtorEq, Int.reduceLT, Int.reduceLE, Int.reduceNeg, Int.reduceSub, Int.reduceAdd, Int.reduceToNat, ↓reduceIte]
   refine ⟨8 - (k + 1), by omega, hJ _ _ _ ⟨k + 1, rest ++ [⟨5, 1, aA_ [cL_ (c4_ l) (7 - k)]⟩], by simp [upd]; try omega, by simp [upd, t4], by simp [upd]; try omega, ?_, rfl, by omega⟩⟩
   rw [lv_, cons_append, ← m1_ _ _ hlt]
   rfl
  ·have hg : ¬ (0 : Int) ≤ 7 - k := by omega
   simp (disch := omega) only [t3, t5, hg, fl, dd_, Option.map_some, go_sem, reduceEqDiff, ↓reduceIte]
   rw [ov_ _ _ (by omega), ← hkey]
   exact ⟨1, rfl⟩
 ·have q' : b2_ l = false := by simpa using q
  have hkey : cZ_ l = 2 :: (esc l ++ [0, 0]) := by unfold cZ_; rw [if_neg q]
  simp (disch := omega) only [q', go_sem, reduceEqDiff, reduceLeDiff, ↓reduceIte]
  refine ⟨by omega, ?_⟩
  try simp (disch := omega) only [go_sem, reduceEqDiff, Nat.reduceAdd, reduceLeDiff, reduceCtorEq, Int.reduceLT, Int.reduceLE, Int.reduceNeg, Int.reduceSub, Int.reduceAdd, Int.reduceToNat, ↓reduceIte]
  refine aJ_ (fun n t h => ∃ (i : Nat) (out : List UInt8) (rest : List Row), t 0 = .val (.string (txt l)) ∧ t 3 = .own 0 out.length ∧ t 6 = .val (.int .i64 i) ∧ h = ⟨5, 1, aA_ out⟩ :: rest ∧ n = l.length - i ∧ i ≤ l.length ∧ out.length ≤ 1 + 2 * i ∧ 2 :: esc l = out ++ esc (l.drop i)) l.length ?_ ?_
  ·exact ⟨0, [2], _, rfl, rfl, rfl, rfl, rfl, by omega, by simp, rfl⟩
  rintro J hJ n t h ⟨i, out, rest, t0, t3, t6, rfl, rfl, hi, hol, hS⟩
  have fl := cI_ out
  by_cases hlt : i < l.length
  ·have hltI : (i : Int) < l.length := by omega
   rw [uU_ l i hlt] at hS
   by_cases r0 : l[i] = 0
   ·rw [if_pos r0] at hS
    have r0' : ((l[i].toNat : Int) = 0) = True := by simp [r0]
    simp (disch := omega) only [t0, t3, t6, hltI, r0', fl, az_, go_sem, reduceEqDiff, reduceLeDiff, reduceCtorEq, ↓reduceIte]
    refine ⟨by omega, by omega, ?_⟩
    refine ⟨by omega, by omega, ?_⟩
    refine ⟨l.length - (i + 1), by omega, hJ _ _ _ ⟨i + 1, out ++ [0, 255], rest ++ [⟨5, 1, aA_ [l[i]]⟩, ⟨5, 1, aA_ [255]⟩], by simp [upd, t0], by simp [upd], by simp [upd]; try omega, by simp [aA_, r0], rfl, by omega, by simp; omega, by rw [hS]; simp⟩⟩
   ·rw [if_neg r0] at hS
    have r0' : ((l[i].toNat : Int) = 0) = False := by rw [eq_iff_iff, iff_false]; intro e; exact r0 (UInt8.toNat_inj.1 (by have h2 : (0 : UInt8).toNat = 0 := rfl; omega))
    simp (disch := omega) only [t0, t3, t6, hltI, r0', fl, az_, go_sem, reduceEqDiff, reduceLeDiff, reduceCtorEq, ↓reduceIte]
    refine ⟨by omega, by omega, ?_⟩
    try simp (disch := omega) only [t0, t3, t6, hltI, hlt, r0', fl, az_, go_sem, reduceEqDiff, Nat.reduceAdd, reduceLeDiff, reduceCtorEq, Int.reduceLT, Int.reduceLE, Int.reduceNeg, Int.reduceSub, Int.reduceAdd, Int.reduceToNat, ↓reduceIte]
    exact ⟨l.length - (i + 1), by omega, hJ _ _ _ ⟨i + 1, out ++ [l[i]], rest ++ [⟨5, 1, aA_ [l[i]]⟩], by simp [upd, t0], by simp [upd], by simp [upd]; try omega, by simp [aA_], rfl, by omega, by simp; omega, by rw [hS]; simp⟩⟩
  ·have hltI : ¬ (i : Int) < l.length := by omega
   rw [drop_eq_nil_of_le (by omega), esc, append_nil] at hS
   simp (disch := omega) only [t0, t3, t6, hltI, fl, go_sem, reduceEqDiff, Nat.reduceAdd, reduceLeDiff, reduceCtorEq, ↓reduceIte]
   refine ⟨by omega, by omega, ?_⟩
   have e2 : aA_ out ++ [[AV.val (.int .u8 0)], [AV.val (.int .u8 0)]] = aA_ (out ++ [0, 0]) := by simp [aA_]
   simp (disch := omega) only [e2, dd_, Option.map_some, go_sem]
   rw [hkey, ← hS]
   exact ⟨1, rfl⟩
def uH_ : LC :=
 .q [.o [.s 2 (.mov (.const (.string ⟨#[]⟩)))], .o [.s 3 (.mov (.const (.string ⟨#[]⟩)))], .q [.o [.ki 4 0], .block 0 (.loop (.q [.q [.o [.m 5 4, .m 6 0, .ll 7 6, .bb 8 .lss false 5 7], .k 8 .skip (.exit 0)], .block 1 (.o
 [.m 11 3, .m 12 0, .m 13 4, .ia 14 1 12 13, .ln 15 14, .c1 16 124 15, .bb 17 .add false 11 16, .m 3 17]), .o [.m 9 4, .bk 10 .add false 9 1, .m 4 10]]))], .o [.m 18 3, .m 2 18], .ret]
def sB_ : LF := ⟨1, 19, uH_, [.tmp 2]⟩
theorem wl_ : as_ Tryz.prog Tryz.f111 sB_ := al_
theorem hJ_ (xs : List ByteArray) (hx : cK_ xs = true) (h : List Row) : aa_ Tryz.prog 111 [.list 0 1 (xs.map ax_)] h (.val (.string (txt (e1_ (bss xs))))) := by
 refine ah_ mixed Tryz.func111 wl_ rfl rfl ?_ h
 obtain ⟨h4, hm⟩ := gt_ hx
 simp (disch := omega) only [sB_, uH_, go_sem]
 refine aJ_ (fun n t h => ∃ k : Nat, t 0 = .list 0 1 (xs.map ax_) ∧ t 3 = .val (.string (txt (e1_ (bss (xs.take k))))) ∧ t 4 = .val (.int .i64 k) ∧ h = [] ∧ n = xs.length - k ∧ k ≤ xs.length) xs.length ⟨0, rfl, rfl, rfl, rfl, rfl, Nat.zero_le _⟩ ?_
 rintro J hJ n t h ⟨k, t0, t3, t4, rfl, rfl, hk⟩
 by_cases hlt : k < xs.length
 ·have hltI : (k : Int) < xs.length := by omega
  have hl1 := id_ (xs.take k) (fun x hx' => (hm x (mem_of_mem_take hx')).2)
  have hl2 : (xs.take k).length ≤ 4 := by rw [length_take]; omega
  have hl3 := iB_ (bs xs[k])
  have hl4 := hm _ (getElem_mem hlt)
  have hl5 : (bs xs[k]).length = xs[k].size := c1_ _
  have hc := fun h => ll_ (bs xs[k]) (by omega) h
  rw [eN_] at hc
  have hadd : (e1_ (bss (xs.take k))).length + (cZ_ (bs xs[k])).length ≤ 9223372036854775807 := by omega
  simp (disch := omega) only [t0, t3, t4, hltI, go_sem, reduceEqDiff, reduceCtorEq, ↓reduceIte]
  refine aa_.call (hc _) ?_
  simp (disch := omega) only [t4, bv_ _ _ _ hadd, az_, go_sem, reduceEqDiff, ↓reduceIte]
  refine ⟨xs.length - (k + 1), by omega, hJ _ _ _ ⟨k + 1, by simp [upd, t0], ?_, by simp [upd], rfl, rfl, by omega⟩⟩
  rw [take_succ_eq_append_getElem hlt, bss, bss, map_append, mX_]
  simp [upd, e1_]
 ·have hltI : ¬ (k : Int) < xs.length := by omega
  simp (disch := omega) only [t0, t3, t4, hltI, go_sem, reduceEqDiff, reduceCtorEq, ↓reduceIte]
  rw [take_of_length_le (by omega)]
  exact ⟨1, rfl⟩
theorem dq_ (s : ByteArray) (hs : s.size ≤ 1048576) (h : List Row) : aa_ prog 122 [.val (.string s)] h (.val (.bool (b2_ s.data.toList))) := by
 have := gI_ s.data.toList (by rw [c1_]; omega) h
 rwa [eN_] at this
theorem ez_ (s : ByteArray) (hs : s.size ≤ 1048576) (h : List Row) : aa_ prog 123 [.val (.string s)] h (.val (.int .i64 (bJ_ s.data.toList))) := by
 have := f3_ s.data.toList (by rw [c1_]; omega) h
 rwa [eN_] at this
theorem lo_ (q : Bool) (a b : ByteArray) : bi_ .lss q (.val (.string a)) (.val (.string b)) = some (.val (.bool (Op.bytesLess a.data.toList b.data.toList))) := by
 rw [nD_, dl_, dl_]
theorem tb_ (q : Bool) (a b : ByteArray) : bi_ .gtr q (.val (.string a)) (.val (.string b)) = some (.val (.bool (Op.bytesLess b.data.toList a.data.toList))) := by
 have e : bi_ .gtr q (.val (.string a)) (.val (.string b)) = some (.val (.bool (!(Op.bytesLess a.toList b.toList || a.toList == b.toList)))) := rfl
 rw [e, dl_, dl_]
 have : (!(Op.bytesLess a.data.toList b.data.toList || a.data.toList == b.data.toList)) = Op.bytesLess b.data.toList a.data.toList := by
  by_cases h1 : Op.bytesLess a.data.toList b.data.toList = true
  ·rw [h1, kN_ _ _ h1]; rfl
  ·by_cases h2 : a.data.toList = b.data.toList
   ·rw [h2, fL_]; simp
   ·have h3 : (a.data.toList == b.data.toList) = false := by simpa using h2
    have h1' : Op.bytesLess a.data.toList b.data.toList = false := by simpa using h1
    rw [h1', h3]
    by_cases h4 : Op.bytesLess b.data.toList a.data.toList = true
    ·rw [h4]; rfl
    ·exact absurd (ia_ _ _ h1' (by simpa using h4)) h2
 rw [this]
def v5_ : LC :=
 .q [.o [.f 2], .o [.m 3 0, .m 4 0, .bb 5 .neq false 3 4, .m 2 5], .ret]
def sF_ : LF := ⟨1, 6, v5_, [.tmp 2]⟩
theorem ul_ : as_ prog Tryz.f101 sF_ := al_
theorem fx_ (s : ByteArray)  (h : List Row) : aa_ prog 101 [.val (.string s)] h (.val (.bool false)) := by
 refine ah_ mixed Tryz.func101 ul_ rfl rfl ?_ h
 simp (disch := omega) only [sF_, v5_, go_sem, reduceEqDiff, reduceCtorEq, ↓reduceIte]
 repeat' (first
  | exact ad_ _ _
  | simp (disch := omega) only [go_sem, reduceEqDiff, Nat.reduceAdd, reduceLeDiff, reduceCtorEq, Int.reduceLT, Int.reduceLE, Int.reduceNeg, Int.reduceSub, Int.reduceAdd, Int.reduceToNat, ↓reduceIte]
  | ((first | (apply aF_; assumption) | (apply aE_; assumption) | (apply aP_; assumption) | (apply aO_; assumption)); intro hb; try simp only [hb])
  | ((first | apply an_ | apply ap_) <;> intro hb <;> (try simp only [hb]) <;> (first | have hp := a2_ hb | have hp := a4_ hb | have hp := a5_ hb | have hp := a3_ hb | skip)))
def uQ_ : LC :=
 .q [.o [.f 2], .o [.m 3 0, .m 4 0, .bb 5 .neq false 3 4, .m 2 5], .ret]
def sv_ : LF := ⟨1, 6, uQ_, [.tmp 2]⟩
theorem wt_ : as_ prog Tryz.f126 sv_ := al_
theorem fZ_ (s : Int)  (h : List Row) : aa_ prog 126 [.val (.int .i64 s)] h (.val (.bool false)) := by
 refine ah_ mixed Tryz.func126 wt_ rfl rfl ?_ h
 simp (disch := omega) only [sv_, uQ_, go_sem, reduceEqDiff, reduceCtorEq, ↓reduceIte]
 repeat' (first
  | exact ad_ _ _
  | simp (disch := omega) only [go_sem, reduceEqDiff, Nat.reduceAdd, reduceLeDiff, reduceCtorEq, Int.reduceLT, Int.reduceLE, Int.reduceNeg, Int.reduceSub, Int.reduceAdd, Int.reduceToNat, ↓reduceIte]
  | ((first | (apply aF_; assumption) | (apply aE_; assumption) | (apply aP_; assumption) | (apply aO_; assumption)); intro hb; try simp only [hb])
  | ((first | apply an_ | apply ap_) <;> intro hb <;> (try simp only [hb]) <;> (first | have hp := a2_ hb | have hp := a4_ hb | have hp := a5_ hb | have hp := a3_ hb | skip)))
def uu_ : LC :=
 .q [.o [.ki 4 0], .o [.m 7 0, .c1 8 126 7, .m 5 8], .o [.m 9 1, .c1 10 126 9, .m 6 10], .q [.o [.m 11 5], .k 11 (.q [.q [.o [.m 12 6], .k 12 (.q [.o [.ki 4 0], .ret]) .skip], .o [.s 4 (.mov (.const (.int .i64 (-1))))],
 .ret]) .skip], .q [.o [.m 13 6], .k 13 (.q [.o [.ki 4 1], .ret]) .skip], .q [.o [.m 14 0, .m 15 1, .bb 16 .lss false 14 15], .k 16 (.q [.o [.s 4 (.mov (.const (.int .i64 (-1))))], .ret]) .skip], .q [.o [.m 17 0, .m 18 1,
 .bb 19 .gtr false 17 18], .k 19 (.q [.o [.ki 4 1], .ret]) .skip], .o [.ki 4 0], .ret]
def sP_ : LF := ⟨2, 20, uu_, [.tmp 4]⟩
theorem vt_ : as_ prog Tryz.f117 sP_ := al_
theorem fl_ (a b : Int)  (h : List Row) : aa_ prog 117 [.val (.int .i64 a), .val (.int .i64 b)] h (.val (.int .i64 (jP_ a b))) := by
 refine ah_ mixed Tryz.func117 vt_ rfl rfl ?_ h
 simp (disch := omega) only [sP_, uu_, go_sem, reduceCtorEq, Int.reduceNeg, ↓reduceIte]
 repeat' (first
  | exact ad_ _ _
  | (refine au_ ?_; simp only [decide_eq_true_eq, decide_eq_false_iff_not] at *; unfold jP_; (repeat' split) <;> omega)
  | simp (disch := omega) only [go_sem, reduceEqDiff, reduceCtorEq, Int.reduceNeg, ↓reduceIte]
  | (refine aa_.call (fZ_ _ _) ?_)
  | (refine aa_.q (fZ_ _ _) ?_)
  | ((first | (apply aF_; assumption) | (apply aE_; assumption) | (apply aP_; assumption) | (apply aO_; assumption)); intro hb; try simp only [hb])
  | ((first | apply an_ | apply ap_) <;> intro hb <;> (try simp only [hb]) <;> (first | have hp := a2_ hb | have hp := a4_ hb | have hp := a5_ hb | have hp := a3_ hb | skip)))
def c78 : LC :=
 .q [.o [.ki 4 0], .o [.m 7 0, .c1 8 101 7, .m 5 8], .o [.m 9 1, .c1 10 101 9, .m 6 10], .q [.o [.m 11 5], .k 11 (.q [.q [.o [.m 12 6], .k 12 (.q [.o [.ki 4 0], .ret]) .skip], .o [.s 4 (.mov (.const (.int .i64 (-1))))],
 .ret]) .skip], .q [.o [.m 13 6], .k 13 (.q [.o [.ki 4 1], .ret]) .skip], .q [.o [.m 14 0, .m 15 1, .bb 16 .lss false 14 15], .k 16 (.q [.o [.s 4 (.mov (.const (.int .i64 (-1))))], .ret]) .skip], .q [.o [.m 17 0, .m 18 1,
 .bb 19 .gtr false 17 18], .k 19 (.q [.o [.ki 4 1], .ret]) .skip], .o [.ki 4 0], .ret]
def uc_ : LF := ⟨2, 20, c78, [.tmp 4]⟩
theorem x0_ : as_ prog Tryz.f78 uc_ := al_
theorem dx_ (a b : ByteArray)  (h : List Row) : aa_ prog 78 [.val (.string a), .val (.string b)] h (.val (.int .i64 (h7_ a.data.toList b.data.toList))) := by
 refine ah_ mixed Tryz.func78 x0_ rfl rfl ?_ h
 simp (disch := omega) only [uc_, c78, go_sem, reduceCtorEq, Int.reduceNeg, ↓reduceIte]
 repeat' (first
  | exact ad_ _ _
  | (refine au_ ?_; simp only [h7_, *]; first | rfl | (simp; done))
  | simp (disch := omega) only [lo_, tb_, go_sem, reduceEqDiff, reduceCtorEq, Int.reduceNeg, ↓reduceIte]
  | (refine aa_.call (fx_ _ _) ?_)
  | (refine aa_.q (fx_ _ _) ?_)
  | ((first | (apply bf_; assumption) | (apply bh_; assumption) | (apply bs_; assumption) | (apply bt_; assumption)); intro hb; try simp only [hb])
  | ((first | (apply aF_; assumption) | (apply aE_; assumption) | (apply aP_; assumption) | (apply aO_; assumption)); intro hb; try simp only [hb])
  | ((first | apply aH_ | apply aM_ | apply an_ | apply ap_) <;> intro hb <;> (try simp only [hb]) <;> (first | have hp := a2_ hb | have hp := a4_ hb | have hp := a5_ hb | have hp := a3_ hb | skip)))
def wi_ : LC :=
 .q [.o [.ki 4 0], .o [.m 7 0, .c1 8 116 7, .m 9 1, .c1 10 116 9, .m 5 8, .m 6 10], .block 0 (.q [.o [.m 12 5, .m 13 12, .gm 14 13 true 6, .pf 15 13 14, .m 11 15], .k 11 (.q [.o [.m 16 0, .c1 17 118 16, .m 18 1, .c1 19
 118 18, .c2 20 117 17 19, .m 4 20], .ret]) (.q [.o [.m 22 5, .m 21 22], .k 21 (.q [.o [.s 4 (.mov (.const (.int .i64 (-1))))], .ret]) (.q [.o [.m 24 6, .m 23 24], .k 23 (.q [.o [.ki 4 1], .ret]) .skip])])]), .o [.m 25 0,
 .m 26 1, .c2 27 78 25 26, .m 4 27], .ret]
def sZ_ : LF := ⟨2, 28, wi_, [.tmp 4]⟩
theorem vz_ : as_ prog Tryz.f103 sZ_ := al_
theorem hi_ (a b : ByteArray) (ha : a.size ≤ 1048576) (hbb : b.size ≤ 1048576) (h : List Row) : aa_ prog 103 [.val (.string a), .val (.string b)] h (.val (.int .i64 (dv_ a.data.toList b.data.toList))) := by
 refine ah_ mixed Tryz.func103 vz_ rfl rfl ?_ h
 simp (disch := omega) only [sZ_, wi_, go_sem, reduceCtorEq, Int.reduceNeg, ↓reduceIte]
 repeat' (first
  | exact ad_ _ _
  | (refine au_ ?_; simp only [dv_, *]; first | rfl | (simp; done))
  | simp (disch := omega) only [go_sem, reduceEqDiff, reduceCtorEq, Int.reduceNeg, ↓reduceIte]
  | (refine aa_.call (cV_ _ ha _) ?_)
  | (refine aa_.q (cV_ _ ha _) ?_)
  | (refine aa_.call (cV_ _ hbb _) ?_)
  | (refine aa_.q (cV_ _ hbb _) ?_)
  | (refine aa_.call (dw_ _ ha _) ?_)
  | (refine aa_.q (dw_ _ ha _) ?_)
  | (refine aa_.call (dw_ _ hbb _) ?_)
  | (refine aa_.q (dw_ _ hbb _) ?_)
  | (refine aa_.call (fl_ _ _ _) ?_)
  | (refine aa_.q (fl_ _ _ _) ?_)
  | (refine aa_.call (dx_ _ _ _) ?_)
  | (refine aa_.q (dx_ _ _ _) ?_)
  | ((first | (apply bf_; assumption) | (apply bh_; assumption) | (apply bs_; assumption) | (apply bt_; assumption)); intro hb; try simp only [hb])
  | ((first | (apply aF_; assumption) | (apply aE_; assumption) | (apply aP_; assumption) | (apply aO_; assumption)); intro hb; try simp only [hb])
  | ((first | apply aH_ | apply aM_ | apply an_ | apply ap_) <;> intro hb <;> (try simp only [hb]) <;> (first | have hp := a2_ hb | have hp := a4_ hb | have hp := a5_ hb | have hp := a3_ hb | skip)))
def uJ_ : LC :=
 .q [.o [.f 4], .o [.m 7 0, .c1 8 122 7, .m 5 8], .o [.m 9 1, .c1 10 122 9, .m 6 10], .q [.o [.m 11 5, .m 12 11, .gm 13 12 true 6, .pf 14 12 13], .k 14 (.q [.o [.m 15 0, .c1 16 123 15, .m 17 1, .c1 18 123 17, .bb 19 .lss
 false 16 18, .m 4 19], .ret]) .skip], .q [.o [.m 20 5, .m 21 6, .bb 22 .neq true 20 21], .k 22 (.q [.o [.m 23 5, .m 4 23], .ret]) .skip], .o [.m 24 0, .m 25 1, .bb 26 .lss false 24 25, .m 4 26], .ret]
def sI_ : LF := ⟨2, 27, uJ_, [.tmp 4]⟩
theorem uR_ : as_ prog Tryz.f110 sI_ := al_
theorem jo_ (a b : ByteArray) (ha : a.size ≤ 1048576) (hbb : b.size ≤ 1048576) (h : List Row) : aa_ prog 110 [.val (.string a), .val (.string b)] h (.val (.bool (before a.data.toList b.data.toList))) := by
 refine ah_ mixed Tryz.func110 uR_ rfl rfl ?_ h
 simp (disch := omega) only [sI_, uJ_, go_sem, reduceCtorEq, ↓reduceIte]
 repeat' (first
  | exact ad_ _ _
  | (refine ag_ ?_; simp only [before, *]; first | rfl | (simp; done))
  | (refine ag_ ?_; simp_all [before]; done)
  | simp (disch := omega) only [lo_, mW_, go_sem, reduceEqDiff, reduceCtorEq, ↓reduceIte]
  | (refine aa_.call (dq_ _ ha _) ?_)
  | (refine aa_.q (dq_ _ ha _) ?_)
  | (refine aa_.call (dq_ _ hbb _) ?_)
  | (refine aa_.q (dq_ _ hbb _) ?_)
  | (refine aa_.call (ez_ _ ha _) ?_)
  | (refine aa_.q (ez_ _ ha _) ?_)
  | (refine aa_.call (ez_ _ hbb _) ?_)
  | (refine aa_.q (ez_ _ hbb _) ?_)
  | ((first | (apply bf_; assumption) | (apply bh_; assumption) | (apply bs_; assumption) | (apply bt_; assumption)); intro hb; try simp only [hb])
  | ((first | (apply aF_; assumption) | (apply aE_; assumption) | (apply aP_; assumption) | (apply aO_; assumption)); intro hb; try simp only [hb])
  | ((first | apply aH_ | apply aM_ | apply an_ | apply ap_) <;> intro hb <;> (try simp only [hb]) <;> (first | have hp := a2_ hb | have hp := a4_ hb | have hp := a5_ hb | have hp := a3_ hb | skip)))
def fe_ (c : ByteArray → ByteArray → Int) : List ByteArray → List ByteArray → Int
 | [], [] => 0
 | [], _ :: _ => -1
 | _ :: _, [] => 1
 | x :: xs, y :: ys => if c x y = 0 then fe_ c xs ys else c x y
theorem pz_ (c : ByteArray → ByteArray → Int) (xs ys : List ByteArray) (k : Nat) (h1 : k < xs.length) (h2 : k < ys.length) : fe_ c (xs.drop k) (ys.drop k) = if c xs[k] ys[k] = 0 then fe_ c (xs.drop (k + 1)) (ys.drop (k + 1)) else c xs[k] ys[k] := by
 rw [drop_eq_getElem_cons h1, drop_eq_getElem_cons h2]; rfl
theorem oS_ (c : ByteArray → ByteArray → Int) (xs ys : List ByteArray) (k : Nat) (h1 : k < xs.length) (h2 : ys.length ≤ k) : fe_ c (xs.drop k) (ys.drop k) = 1 := by
 rw [drop_eq_getElem_cons h1, drop_eq_nil_of_le h2]; rfl
theorem n9_ (c : ByteArray → ByteArray → Int) (xs ys : List ByteArray) (k : Nat) (h1 : xs.length ≤ k) (h2 : k < ys.length) : fe_ c (xs.drop k) (ys.drop k) = -1 := by
 rw [drop_eq_nil_of_le h1, drop_eq_getElem_cons h2]; rfl
theorem qk_ (c : ByteArray → ByteArray → Int) (xs ys : List ByteArray) (k : Nat) (h1 : xs.length ≤ k) (h2 : ys.length ≤ k) : fe_ c (xs.drop k) (ys.drop k) = 0 := by
 rw [drop_eq_nil_of_le h1, drop_eq_nil_of_le h2]; rfl
def vS_ : LC :=
 .q [.o [.ki 6 0], .q [.o [.m 11 0, .ll 12 11, .ki 13 0], .block 0 (.loop (.q [.o [.bb 14 .lss false 13 12], .k 14 .skip (.exit 0), .block 1 (.q [.o [.m 15 13, .ia 16 1 11 13, .ln 17 16, .m 7 15, .m 8 17], .q [.o [.m 18
 7, .m 19 1, .ll 20 19, .bb 21 .geq false 18 20], .k 21 (.q [.o [.ki 6 1], .ret]) .skip], .o [.m 22 1, .m 23 7, .ia 24 1 22 23, .ln 25 24, .m 9 25], .o [.m 26 2, .m 27 8, .m 28 9, .s 29 (.callv (.tmp 26) [.tmp 27, .tmp
 28]), .m 10 29], .o [.m 30 10, .bk 31 .neq false 30 0], .k 31 (.q [.o [.m 32 10, .m 6 32], .ret]) .skip]), .o [.bk 33 .add false 13 1, .m 13 33]]))], .q [.o [.m 34 0, .ll 35 34, .m 36 1, .ll 37 36, .bb 38 .lss false 35
 37], .k 38 (.q [.o [.s 6 (.mov (.const (.int .i64 (-1))))], .ret]) .skip], .o [.ki 6 0], .ret]
def sT_ : LF := ⟨3, 39, vS_, [.tmp 6]⟩
theorem v8_ : as_ prog Tryz.f102 sT_ := al_
theorem dy_ (xs ys : List ByteArray) (c : ByteArray → ByteArray → Int) (g : Nat) (hx : xs.length ≤ 1048576) (hy : ys.length ≤ 1048576) (hc : cc_ prog g = true) (hp : ∀ x ∈ xs, ∀ y ∈ ys, ∀ h, aa_ prog g [.val (.string x), .val (.string y)] h (.val (.int .i64 (c x y)))) (h : List Row) :
 aa_ prog 102 [.list 0 1 (xs.map ax_), .list 0 1 (ys.map ax_), .fn g [] []] h (.val (.int .i64 (fe_ c xs ys))) := by
 refine ah_ mixed Tryz.func102 v8_ rfl rfl ?_ h
 simp (disch := omega) only [sT_, vS_, go_sem, reduceCtorEq, Int.reduceNeg, ↓reduceIte]
 refine aJ_ (fun n t h => ∃ k : Nat, t 0 = .list 0 1 (xs.map ax_) ∧ t 1 = .list 0 1 (ys.map ax_) ∧ t 2 = .fn g [] [] ∧ t 11 = .list 0 1 (xs.map ax_) ∧ t 12 = .val (.int .i64 xs.length) ∧ t 13 = .val (.int .i64 k) ∧ n = xs.length - k ∧ k ≤ xs.length ∧ k ≤ ys.length ∧ fe_ c xs ys = fe_ c (xs.drop k) (ys.drop k)) xs.length ?_ ?_
 ·exact ⟨0, rfl, rfl, rfl, rfl, rfl, rfl, rfl, Nat.zero_le _, Nat.zero_le _, rfl⟩
 ·rintro J hJ n t h ⟨k, t0, t1, t2, t11, t12, t13, rfl, hk, hk2, hS⟩
  by_cases hlt : k < xs.length
  ·by_cases hlt2 : k < ys.length
   ·have hge : ¬ ((ys.length : Int) ≤ k) := by omega
    rw [pz_ c xs ys k hlt hlt2] at hS
    simp (disch := omega) only [t1, t2, t11, t12, t13, hlt, hge, hc, ax_, go_sem, reduceEqDiff, Int.reduceNeg, ↓reduceIte]
    refine aa_.call (hp xs[k] (getElem_mem hlt) ys[k] (getElem_mem hlt2) _) ?_
    by_cases e : c xs[k] ys[k] = 0
    ·simp (disch := omega) only [t13, e, go_sem, reduceEqDiff, Int.reduceNeg, ↓reduceIte]
     exact ⟨xs.length - (k + 1), by omega, hJ _ _ _ ⟨k + 1, by simp [upd, t0], by simp [upd, t1], by simp [upd, t2], by simp [upd, t11], by simp [upd, t12], by simp [upd], rfl, by omega, by omega, by rw [hS, if_pos e]⟩⟩
    ·simp (disch := omega) only [e, go_sem, reduceEqDiff, Int.reduceNeg, ↓reduceIte]
     exact au_ (by rw [hS, if_neg e])
   ·have hge : ((ys.length : Int) ≤ k) := by omega
    simp (disch := omega) only [t1, t11, t12, t13, hlt, hge, ax_, go_sem, reduceEqDiff, Int.reduceNeg, ↓reduceIte]
    exact au_ (by rw [hS, oS_ c xs ys k hlt (by omega)])
  ·by_cases hlt2 : k < ys.length
   ·have hl : (xs.length : Int) < ys.length := by omega
    simp (disch := omega) only [t0, t1, t12, t13, hlt, hl, go_sem, reduceEqDiff, reduceCtorEq, Int.reduceNeg, ↓reduceIte]
    exact au_ (by rw [hS, n9_ c xs ys k (by omega) hlt2])
   ·have hl : ¬ ((xs.length : Int) < ys.length) := by omega
    simp (disch := omega) only [t0, t1, t12, t13, hlt, hl, go_sem, reduceEqDiff, reduceCtorEq, Int.reduceNeg, ↓reduceIte]
    exact au_ (by rw [hS, qk_ c xs ys k (by omega) (by omega)])
theorem iv_ : ∀ xs ys : List ByteArray, fe_ (fun a b => dv_ a.data.toList b.data.toList) xs ys = hv_ (bss xs) (bss ys)
 | [], [] => rfl
 | [], _ :: _ => rfl
 | _ :: _, [] => rfl
 | x :: xs, y :: ys => by simp only [fe_, bss, map_cons, hv_]; rw [iv_ xs ys]
theorem gw_ {xs : List ByteArray} {b : Nat} (h : ar_ ByteArray.size xs ≤ b) {s : ByteArray} (hs : s ∈ xs) : s.size ≤ b := by
 have := dg_ (f := ByteArray.size) hs; omega
def c79 : LC :=
 .q [.o [.ki 4 0], .o [.m 5 0, .m 6 1, .s 7 (.call 102 [.tmp 5, .tmp 6, .func 103]), .m 4 7], .ret]
def ur_ : LF := ⟨2, 8, c79, [.tmp 4]⟩
theorem xE_ : as_ prog Tryz.f79 ur_ := al_
theorem h1_ (a b : List ByteArray) (ha : ar_ ByteArray.size a ≤ 1048576) (hb : ar_ ByteArray.size b ≤ 1048576) (h : List Row) : aa_ prog 79 [.list 0 1 (a.map ax_), .list 0 1 (b.map ax_)] h (.val (.int .i64 (hv_ (bss a) (bss b)))) := by
 refine ah_ mixed Tryz.func79 xE_ rfl rfl ?_ h
 simp (disch := omega) only [ur_, c79, go_sem, reduceEqDiff, reduceCtorEq, ↓reduceIte]
 repeat' (first
  | exact ad_ _ _
  | exact au_ (iv_ a b)
  | simp (disch := omega) only [go_sem, ↓reduceIte]
  | (refine aa_.call (dy_ a b (fun a b => dv_ a.data.toList b.data.toList) 103 (bq_ ha) (bq_ hb) (by kernel_rfl) (fun x hx y hy h => hi_ x y (gw_ ha hx) (gw_ hb hy) h) _) ?_)
  | (refine aa_.q (dy_ a b (fun a b => dv_ a.data.toList b.data.toList) 103 (bq_ ha) (bq_ hb) (by kernel_rfl) (fun x hx y hy h => hi_ x y (gw_ ha hx) (gw_ hb hy) h) _) ?_)
  | ((first | (apply aF_; assumption) | (apply aE_; assumption) | (apply aP_; assumption) | (apply aO_; assumption)); intro hb; try simp only [hb])
  | ((first | apply an_ | apply ap_) <;> intro hb <;> (try simp only [hb]) <;> (first | have hp := a2_ hb | have hp := a4_ hb | have hp := a5_ hb | have hp := a3_ hb | skip)))
def orL : List Int → Int
 | [] => 0
 | x :: xs => if x = 0 then orL xs else x
theorem r4_ (xs : List Int) (k : Nat) (h : k < xs.length) : orL (xs.drop k) = if xs[k] = 0 then orL (xs.drop (k + 1)) else xs[k] := by
 rw [drop_eq_getElem_cons h]; rfl
theorem tW_ (xs : List Int) (k : Nat) (h : xs.length ≤ k) : orL (xs.drop k) = 0 := by
 rw [drop_eq_nil_of_le h]; rfl
def c77 : LC :=
 .q [.o [.ki 2 0], .o [.ki 3 0], .q [.o [.m 6 0, .ll 7 6, .ki 8 0], .block 0 (.loop (.q [.o [.bb 9 .lss false 8 7], .k 9 .skip (.exit 0), .block 1 (.q [.o [.ia 10 1 6 8, .ln 11 10, .m 5 11], .o [.m 12 5, .m 13 3, .bb 14
 .neq false 12 13], .k 14 (.q [.o [.m 15 5, .m 2 15], .ret]) .skip]), .o [.bk 16 .add false 8 1, .m 8 16]]))], .o [.m 17 3, .m 2 17], .ret]
def u0_ : LF := ⟨1, 18, c77, [.tmp 2]⟩
theorem xs_ : as_ prog Tryz.f77 u0_ := al_
theorem md_ (xs : List Int) (hx : xs.length ≤ 1048576) (h : List Row) : aa_ prog 77 [.list 0 1 (xs.map fun x => [.val (.int .i64 x)])] h (.val (.int .i64 (orL xs))) := by
 refine ah_ mixed Tryz.func77 xs_ rfl rfl ?_ h
 simp (disch := omega) only [u0_, c77, go_sem, reduceCtorEq, ↓reduceIte]
 refine aJ_ (fun n t h => ∃ k : Nat, t 3 = .val (.int .i64 0) ∧ t 6 = .list 0 1 (xs.map fun x => [.val (.int .i64 x)]) ∧ t 7 = .val (.int .i64 xs.length) ∧ t 8 = .val (.int .i64 k) ∧ n = xs.length - k ∧ k ≤ xs.length ∧ orL xs = orL (xs.drop k)) xs.length ?_ ?_
 ·exact ⟨0, rfl, rfl, rfl, rfl, rfl, Nat.zero_le _, rfl⟩
 ·rintro J hJ n t h ⟨k, t3, t6, t7, t8, rfl, hk, hS⟩
  by_cases hlt : k < xs.length
  ·rw [r4_ xs k hlt] at hS
   by_cases e : xs[k] = 0
   ·simp (disch := omega) only [t3, t6, t7, t8, hlt, e, go_sem, reduceEqDiff, ↓reduceIte]
    exact ⟨xs.length - (k + 1), by omega, hJ _ _ _ ⟨k + 1, by simp [upd, t3], by simp [upd, t6], by simp [upd, t7], by simp [upd], rfl, by omega, by rw [hS, if_pos e]⟩⟩
   ·simp (disch := omega) only [t3, t6, t7, t8, hlt, e, go_sem, reduceEqDiff, ↓reduceIte]
    exact au_ (by rw [hS, if_neg e])
  ·simp (disch := omega) only [t3, t7, t8, hlt, go_sem, reduceEqDiff, ↓reduceIte]
   exact au_ (by rw [hS, tW_ _ _ (by omega)])
theorem pw_ (a b : Int) (h : List Row) : aa_ prog 77 [.list 0 1 [[.val (.int .i64 a)], [.val (.int .i64 b)]]] h (.val (.int .i64 (if a = 0 then b else a))) := by
 have := md_ [a, b] (by simp) h
 have e : orL [a, b] = if a = 0 then b else a := by
  simp only [orL]; split
  ·split
   ·omega
   ·rfl
  ·rfl
 rwa [e] at this
theorem pV_ (a b : Int) (E : Tag) (l : Nat) (H : List Row) (K : AV → List Row → Prop) (hl : H[l]? = some ⟨E, 1, [[.val (.int .i64 a)], [.val (.int .i64 b)]]⟩) (hk : K (.val (.int .i64 (if a = 0 then b else a))) H) : callSem prog 77 [.own l 2] H K :=
 mI_ (rs := [.list 0 1 [[.val (.int .i64 a)], [.val (.int .i64 b)]]]) (fun h => pw_ a b h) (show aQ_ H [.own l 2] _ from ⟨_, [], rfl, .inr ⟨2, [l], ⟨_, [[.val (.int .i64 a)], [.val (.int .i64 b)]], [], hl, rfl, by
  refine ⟨_, _, [], [], rfl, rfl, ⟨_, _, [], [], rfl, rfl, ⟨rfl, .inl rfl⟩, ⟨rfl, rfl⟩⟩, ⟨_, _, [], [], rfl, rfl, ⟨_, _, [], [], rfl, rfl, ⟨rfl, .inl rfl⟩, ⟨rfl, rfl⟩⟩, ⟨rfl, rfl⟩⟩⟩, rfl, rfl⟩⟩, rfl⟩) hk
def c48 : LC :=
 .q [.o [.ki 8 0], .o [.m 9 0, .m 10 2, .c2 11 78 9 10, .m 12 1, .m 13 3, .c2 14 79 12 13, .s 15 (.buildSlice 3 1 (.int .i64 0) 2 [(0, .tmp 11), (1, .tmp 14)]), .c1 16 77 15, .m 8 16], .ret]
def uM_ : LF := ⟨4, 17, c48, [.tmp 8]⟩
theorem wW_ : as_ prog Tryz.f48 uM_ := al_
theorem eg_ (n : ByteArray) (s : List ByteArray) (o : ByteArray) (os : List ByteArray) (hs : ar_ ByteArray.size s ≤ 1048576) (hos : ar_ ByteArray.size os ≤ 1048576) (h : List Row) :
 aa_ prog 48 [.val (.string n), .list 0 1 (s.map ax_), .val (.string o), .list 0 1 (os.map ax_)] h (.val (.int .i64 (lk_ n.data.toList (bss s) o.data.toList (bss os)))) := by
 refine ah_ mixed Tryz.func48 wW_ rfl rfl ?_ h
 simp (disch := omega) only [uM_, c48, go_sem, reduceEqDiff, reduceCtorEq, ↓reduceIte]
 refine aa_.call (dx_ _ _ _) ?_
 simp (disch := omega) only [go_sem, reduceEqDiff, ↓reduceIte]
 refine aa_.call (h1_ _ _ hs hos _) ?_
 simp (disch := omega) only [go_sem, reduceEqDiff, ↓reduceIte]
 refine pV_ _ _ _ _ _ _ rfl ?_
 simp (disch := omega) only [go_sem, ↓reduceIte]
 exact au_ rfl
def dN_ (n : ByteArray) (s : List ByteArray) : Bool := cJ_ n && cK_ s
def c75 : LC :=
 .q [.o [.f 4], .o [.m 5 0, .c1 6 98 5, .m 7 6, .gm 8 7 true 1, .gc 9 7 true 99 8, .pf 10 7 9, .m 4 10], .ret]
def vv_ : LF := ⟨2, 11, c75, [.tmp 4]⟩
theorem xo_ : as_ prog Tryz.f75 vv_ := al_
theorem el_ (n : ByteArray) (s : List ByteArray) (hn : n.size ≤ 1048576) (hs : s.length ≤ 1048576) (h : List Row) : aa_ prog 75 [.val (.string n), .list 0 1 (s.map ax_)] h (.val (.bool (dN_ n s))) := by
 refine ah_ mixed Tryz.func75 xo_ rfl rfl ?_ h
 simp (disch := omega) only [vv_, c75, go_sem, reduceCtorEq, ↓reduceIte]
 repeat' (first
  | exact ad_ _ _
  | (refine ag_ ?_; first | rfl | (simp only [dN_, *, Bool.true_and, Bool.false_and]; done) | (simp [dN_, *]; done))
  | simp (disch := omega) only [go_sem, reduceEqDiff, ↓reduceIte]
  | (refine aa_.call (hF_ _ hn _) ?_)
  | (refine aa_.q (hF_ _ hn _) ?_)
  | (refine aa_.call (fA_ _ hs _) ?_)
  | (refine aa_.q (fA_ _ hs _) ?_)
  | ((first | (apply bf_; assumption) | (apply bh_; assumption) | (apply bs_; assumption) | (apply bt_; assumption)); intro hb; try simp only [hb])
  | ((first | (apply aF_; assumption) | (apply aE_; assumption) | (apply aP_; assumption) | (apply aO_; assumption)); intro hb; try simp only [hb])
  | ((first | apply aH_ | apply aM_ | apply an_ | apply ap_) <;> intro hb <;> (try simp only [hb]) <;> (first | have hp := a2_ hb | have hp := a4_ hb | have hp := a5_ hb | have hp := a3_ hb | skip)))
def c36 : LC :=
 .q [.o [.f 4], .o [.m 5 0, .c1 6 59 5, .m 7 6, .gm 8 7 true 1, .gc 9 7 true 60 8, .pf 10 7 9, .m 4 10], .ret]
def uW_ : LF := ⟨2, 11, c36, [.tmp 4]⟩
theorem w7_ : as_ prog Tryz.f36 uW_ := al_
theorem cX_ (n : ByteArray) (s : List ByteArray) (hn : n.size ≤ 1048576) (hs : s.length ≤ 1048576) (h : List Row) : aa_ prog 36 [.val (.string n), .list 0 1 (s.map ax_)] h (.val (.bool (dN_ n s))) := by
 refine ah_ mixed Tryz.func36 w7_ rfl rfl ?_ h
 simp (disch := omega) only [uW_, c36, go_sem, reduceCtorEq, ↓reduceIte]
 repeat' (first
  | exact ad_ _ _
  | (refine ag_ ?_; first | rfl | (simp only [dN_, *, Bool.true_and, Bool.false_and]; done) | (simp [dN_, *]; done))
  | simp (disch := omega) only [go_sem, reduceEqDiff, ↓reduceIte]
  | (refine aa_.call (hG_ _ hn _) ?_)
  | (refine aa_.q (hG_ _ hn _) ?_)
  | (refine aa_.call (eC_ _ hs _) ?_)
  | (refine aa_.q (eC_ _ hs _) ?_)
  | ((first | (apply bf_; assumption) | (apply bh_; assumption) | (apply bs_; assumption) | (apply bt_; assumption)); intro hb; try simp only [hb])
  | ((first | (apply aF_; assumption) | (apply aE_; assumption) | (apply aP_; assumption) | (apply aO_; assumption)); intro hb; try simp only [hb])
  | ((first | apply aH_ | apply aM_ | apply an_ | apply ap_) <;> intro hb <;> (try simp only [hb]) <;> (first | have hp := a2_ hb | have hp := a4_ hb | have hp := a5_ hb | have hp := a3_ hb | skip)))
theorem pU_ (xs ys : List ByteArray) (k : Nat) (h1 : k < xs.length) (h2 : k < ys.length) : ds_ (bss (xs.drop k)) (bss (ys.drop k)) = if xs[k] = ys[k] then ds_ (bss (xs.drop (k + 1))) (bss (ys.drop (k + 1))) else before xs[k].data.toList ys[k].data.toList := by
 rw [drop_eq_getElem_cons h1, drop_eq_getElem_cons h2]
 simp only [bss, map_cons, ds_, qH_]
theorem lz_ (xs ys : List ByteArray) (k : Nat) (h : xs.length ≤ k ∨ ys.length ≤ k) (h1 : k ≤ xs.length) (h2 : k ≤ ys.length) : ds_ (bss (xs.drop k)) (bss (ys.drop k)) = decide ((xs.length : Int) < ys.length) := by
 rcases Nat.lt_or_ge k xs.length with q | q
 ·have : ys.length ≤ k := by omega
  rw [drop_eq_getElem_cons q, drop_eq_nil_of_le this]
  show false = _; symm; rw [decide_eq_false_iff_not]; omega
 ·rw [drop_eq_nil_of_le q]
  rcases Nat.lt_or_ge k ys.length with q2 | q2
  ·rw [drop_eq_getElem_cons q2]; show true = _; symm; rw [decide_eq_true_eq]; omega
  ·rw [drop_eq_nil_of_le q2]; show false = _; symm; rw [decide_eq_false_iff_not]; omega
def c92 : LC :=
 .q [.o [.f 4], .q [.o [.ki 5 0], .block 0 (.loop (.q [.q [.o [.m 6 5, .m 7 0, .ll 8 7, .bb 9 .lss false 6 8, .m 10 9, .gm 11 10 true 5, .gm 12 10 true 1, .g 13 10 true (.lenSl (.tmp 12)), .g 14 10 true (.bin .lss false
 (.tmp 11) (.tmp 13)), .pf 15 10 14], .k 15 .skip (.exit 0)], .block 1 (.q [.dops [.m 18 0, .m 19 5, .ia 20 1 18 19, .ln 21 20, .m 22 1, .m 23 5, .ia 24 1 22 23, .ln 25 24, .bb 26 .neq false 21 25], .k 26 (.q [.dops [.m
 27 0, .m 28 5, .ia 29 1 27 28, .ln 30 29, .m 31 1, .m 32 5, .ia 33 1 31 32, .ln 34 33, .c2 35 110 30 34, .m 4 35], .ret]) .skip]), .o [.m 16 5, .bk 17 .add false 16 1, .m 5 17]]))], .o [.m 36 0, .ll 37 36, .m 38 1, .ll
 39 38, .bb 40 .lss false 37 39, .m 4 40], .ret]
def uv_ : LF := ⟨2, 41, c92, [.tmp 4]⟩
theorem wR_ : as_ prog Tryz.f92 uv_ := al_
theorem fb_ (s os : List ByteArray) (hs : ar_ ByteArray.size s ≤ 1048576) (hos : ar_ ByteArray.size os ≤ 1048576) (h : List Row) :
 aa_ prog 92 [.list 0 1 (s.map ax_), .list 0 1 (os.map ax_)] h (.val (.bool (ds_ (bss s) (bss os)))) := by
 refine ah_ mixed Tryz.func92 wR_ rfl rfl ?_ h
 have hl1 := bq_ hs
 have hl2 := bq_ hos
 simp (disch := omega) only [uv_, c92, go_sem]
 refine aJ_ (fun m t h => ∃ k : Nat, t 0 = .list 0 1 (s.map ax_) ∧ t 1 = .list 0 1 (os.map ax_) ∧ t 5 = .val (.int .i64 k) ∧ m = s.length - k ∧ k ≤ s.length ∧ k ≤ os.length ∧ ds_ (bss s) (bss os) = ds_ (bss (s.drop k)) (bss (os.drop k))) s.length ?_ ?_
 ·exact ⟨0, rfl, rfl, rfl, rfl, Nat.zero_le _, Nat.zero_le _, rfl⟩
 ·rintro J hJ m t h ⟨k, t1, t3, t9, rfl, hk, hk2, hS⟩
  by_cases hlt : k < s.length
  ·by_cases hlt2 : k < os.length
   ·rw [pU_ s os k hlt hlt2] at hS
    by_cases e : s[k] = os[k]
    ·have e' : (s[k] = os[k]) = True := eq_true e
     simp (disch := omega) only [t1, t3, t9, hlt, hlt2, e', ax_, go_sem, reduceEqDiff, reduceCtorEq, ↓reduceIte]
     exact ⟨s.length - (k + 1), by omega, hJ _ _ _ ⟨k + 1, by simp [upd, t1], by simp [upd, t3], by simp [upd], rfl, by omega, by omega, by rw [hS, if_pos e]⟩⟩
    ·have e' : (s[k] = os[k]) = False := eq_false e
     simp (disch := omega) only [t1, t3, t9, hlt, hlt2, e', ax_, go_sem, reduceEqDiff, reduceCtorEq, ↓reduceIte]
     refine aa_.q (jo_ _ _ (gw_ hs (getElem_mem hlt)) (gw_ hos (getElem_mem hlt2)) _) ?_
     try simp (disch := omega) only [t1, t3, t9, go_sem, reduceEqDiff, Nat.reduceAdd, reduceLeDiff, reduceCtorEq, Int.reduceLT, Int.reduceLE, Int.reduceNeg, Int.reduceSub, Int.reduceAdd, Int.reduceToNat, ↓reduceIte]
     exact ag_ (by rw [hS, if_neg e])
   ·simp (disch := omega) only [t1, t3, t9, hlt, hlt2, go_sem, reduceEqDiff, reduceCtorEq, ↓reduceIte]
    exact ag_ (by rw [hS, lz_ s os k (.inr (by omega)) hk hk2, decide_eq_decide]; omega)
  ·simp (disch := omega) only [t1, t3, t9, hlt, go_sem, reduceEqDiff, reduceCtorEq, ↓reduceIte]
   exact ag_ (by rw [hS, lz_ s os k (.inl (by omega)) hk hk2, decide_eq_decide]; omega)
def c61 : LC :=
 .q [.o [.f 4], .o [.m 5 0, .m 6 1, .c2 7 92 5 6, .m 4 7], .ret]
def wg_ : LF := ⟨2, 8, c61, [.tmp 4]⟩
theorem xP_ : as_ prog Tryz.f61 wg_ := al_
theorem i4_ (s os : List ByteArray) (hs : ar_ ByteArray.size s ≤ 1048576) (hos : ar_ ByteArray.size os ≤ 1048576) (h : List Row) : aa_ prog 61 [.list 0 1 (s.map ax_), .list 0 1 (os.map ax_)] h (.val (.bool (ds_ (bss s) (bss os)))) := by
 refine ah_ mixed Tryz.func61 xP_ rfl rfl ?_ h
 simp (disch := omega) only [wg_, c61, go_sem, reduceEqDiff, reduceCtorEq, ↓reduceIte]
 repeat' (first
  | exact ad_ _ _
  | simp (disch := omega) only [go_sem, ↓reduceIte]
  | (refine aa_.call (fb_ _ _ hs hos _) ?_)
  | (refine aa_.q (fb_ _ _ hs hos _) ?_)
  | ((first | (apply bf_; assumption) | (apply bh_; assumption) | (apply bs_; assumption) | (apply bt_; assumption)); intro hb; try simp only [hb])
  | ((first | (apply aF_; assumption) | (apply aE_; assumption) | (apply aP_; assumption) | (apply aO_; assumption)); intro hb; try simp only [hb])
  | ((first | apply aH_ | apply aM_ | apply an_ | apply ap_) <;> intro hb <;> (try simp only [hb]) <;> (first | have hp := a2_ hb | have hp := a4_ hb | have hp := a5_ hb | have hp := a3_ hb | skip)))
def c37 : LC :=
 .q [.o [.f 8], .o [.m 9 0, .m 10 2, .bb 11 .lss false 9 10, .m 12 11, .gm 13 12 false 0, .gm 14 12 false 2, .g 15 12 false (.bin .eql false (.tmp 13) (.tmp 14)), .gm 16 12 false 15, .gm 17 16 true 1, .gm 18 16 true 3, .g
 19 16 true (.call 61 [.tmp 17, .tmp 18]), .g 20 12 false (.pick (.tmp 16) (.tmp 19) (.const (.bool false))), .pt 21 12 20, .m 8 21], .ret]
def ut_ : LF := ⟨4, 22, c37, [.tmp 8]⟩
theorem xb_ : as_ prog Tryz.f37 ut_ := al_
theorem g6_ (n : ByteArray) (s : List ByteArray) (o : ByteArray) (os : List ByteArray) (hs : ar_ ByteArray.size s ≤ 1048576) (hos : ar_ ByteArray.size os ≤ 1048576) (h : List Row) :
 aa_ prog 37 [.val (.string n), .list 0 1 (s.map ax_), .val (.string o), .list 0 1 (os.map ax_)] h (.val (.bool (fQ_ n.data.toList (bss s) o.data.toList (bss os)))) := by
 refine ah_ mixed Tryz.func37 xb_ rfl rfl ?_ h
 simp (disch := omega) only [ut_, c37, lo_, go_sem, reduceEqDiff, reduceCtorEq, ↓reduceIte]
 by_cases hn : n = o
 ·subst hn
  have hL : fQ_ n.data.toList (bss s) n.data.toList (bss os) = ds_ (bss s) (bss os) := by unfold fQ_; rw [if_pos rfl]
  rw [hL]
  simp (disch := omega) only [fL_, go_sem, reduceEqDiff, reduceCtorEq, ↓reduceIte]
  refine aa_.call (i4_ _ _ hs hos _) ?_
  simp (disch := omega) only [go_sem, reduceEqDiff, ↓reduceIte]
  exact ad_ _ _
 ·have hn' : (n = o) = False := eq_false hn
  have hL : fQ_ n.data.toList (bss s) o.data.toList (bss os) = Op.bytesLess n.data.toList o.data.toList := by unfold fQ_; rw [if_neg (fun q => hn (by rwa [qH_] at q))]
  rw [hL]
  cases hb : Op.bytesLess n.data.toList o.data.toList <;> simp (disch := omega) only [hn', go_sem, reduceEqDiff, reduceCtorEq, ↓reduceIte] <;> exact ad_ _ _
theorem rW_ (n : List UInt8) (s : List (List UInt8)) (o : List UInt8) (os : List (List UInt8)) : decide (0 ≤ lk_ n s o os) = !fQ_ n s o os := by
 have h := q6_ n s o os
 cases hb : fQ_ n s o os with
 | true => rw [hb] at h; have := h.2 rfl; simp; omega
 | false =>
  have : ¬ lk_ n s o os < 0 := fun q => by have := h.1 q; rw [hb] at this; cases this
  simp; omega
def c95 : LC :=
 .q [.o [.s 2 (.mov (.const (.string ⟨#[]⟩)))], .q [.o [.m 3 0, .c1 4 91 3, .nt 5 4], .k 5 (.q [.o [.s 2 (.mov (.const (.string ⟨#[]⟩)))], .ret]) .skip], .o [.m 6 0, .c1 7 111 6, .m 2 7], .ret]
def wA_ : LF := ⟨1, 8, c95, [.tmp 2]⟩
theorem xI_ : as_ prog Tryz.f95 wA_ := al_
theorem ku_ (xs : List ByteArray) (hx : xs.length ≤ 1048576) (h : List Row) : aa_ prog 95 [.list 0 1 (xs.map ax_)] h (.val (.string (txt (ho_ xs)))) := by
 refine ah_ mixed Tryz.func95 xI_ rfl rfl ?_ h
 simp (disch := omega) only [wA_, c95, go_sem, reduceCtorEq, ↓reduceIte]
 repeat' (first
  | exact ad_ _ _
  | (refine aG_ ?_; simp [ho_, *]; done)
  | simp (disch := omega) only [go_sem, reduceCtorEq, ↓reduceIte]
  | (refine aa_.call (d0_ _ hx _) ?_)
  | (refine aa_.q (d0_ _ hx _) ?_)
  | (refine aa_.call (eC_ _ hx _) ?_)
  | (refine aa_.q (eC_ _ hx _) ?_)
  | (refine aa_.call (hJ_ _ (by assumption) _) ?_)
  | (refine aa_.q (hJ_ _ (by assumption) _) ?_)
  | ((first | (apply aF_; assumption) | (apply aE_; assumption) | (apply aP_; assumption) | (apply aO_; assumption)); intro hb; try simp only [hb])
  | ((first | apply an_ | apply ap_) <;> intro hb <;> (try simp only [hb]) <;> (first | have hp := a2_ hb | have hp := a4_ hb | have hp := a5_ hb | have hp := a3_ hb | skip)))
end Go.Proofs.YthahmhkbcdpkjabGreatDoor
