/-
 Contracts of functions. Conditions: as each theorem says.
-/
import Derived.Test.YtddmifalinefnaaGreatDoorFnKA
import Derived.Test.YtddmifalinefnaaGreatDoorAwBits
import Derived.Test.YtddmifalinefnaaGreatDoorFnEB
import Derived.Test.YtddmifalinefnaaGreatDoorAwC
import Derived.Test.YtddmifalinefnaaGreatDoorFnEE
namespace Go.Proofs.YtddmifalinefnaaGreatDoor
open List
open Go.AW
set_option linter.unusedVariables false
set_option linter.unusedSimpArgs false
set_option maxRecDepth 4000
open Nat (reduceEqDiff reduceLeDiff)
open Tryz (prog)
abbrev jT_ (b : Nat) : AV := .val (.pointer (some ⟨b, 0, none⟩))
theorem kj_ {b : Nat} {l : List UInt8} {c : UInt8} {K : AV → Bd → Prop} (hlen : l.length + 1 ≤ 140737488355328) (hk : K (.val .nilIface) (some (b, l ++ [c]))) : fc_ Tryz.prog 136 5 146 [jT_ b, .val (.int .u8 c.toNat)] (some (b, l)) K :=
 i6_ (vals := [.int .u8 c.toNat]) (r := .nilIface) (new := [c]) (fun B w h hB => (Any.Builder_WriteByte_k Tryz.lays167 Tryz.Builder_Extra_167 B b (Lib.byteCells l) c.toNat w h (by rw [Lib.byteCells_length]; exact hlen) hB).mono (by
  rintro en w' ⟨rfl, h1, h2, _⟩
  refine ⟨rfl, .inr ?_, h2⟩
  have e : Lib.byteCells (l ++ [c]) = Lib.byteCells l ++ [.int .u8 c.toNat] := by simp [Lib.byteCells]
  rw [e]; exact h1)) hk
theorem vz_ {b : Nat} {l s : List UInt8} {K : AV → Bd → Prop} (hlen : l.length + s.length ≤ 140737488355328) (hk : ∀ r : Value, K (.val r) (some (b, l ++ s))) : fc_ Tryz.prog 136 5 158 [jT_ b, .val (.string (txt s))] (some (b, l)) K :=
 i6_ (vals := [.string (txt s)]) (r := .tuple #[.int .i64 (txt s).size, .nilIface]) (new := s) (fun B w h hB => (Any.Builder_WriteString_k Tryz.lays166 Tryz.Builder_Extra_166 B b (Lib.byteCells l) (txt s) w h (by rw [Lib.byteCells_length, cq_]; exact hlen) hB).mono (by
  rintro en w' ⟨rfl, h1, h2, _⟩
  refine ⟨rfl, .inr ?_, h2⟩
  have e : Lib.byteCells (l ++ s) = Lib.byteCells l ++ Lib.strCells (txt s) := by simp [Lib.byteCells, Lib.strCells, txt]
  rw [e]; exact h1)) (hk _)
theorem s3_ {b : Nat} {l : List UInt8} {K : AV → Bd → Prop} (hk : K (.val (.string (txt l))) (some (b, l))) : fc_ Tryz.prog 136 5 147 [jT_ b] (some (b, l)) K := by
 refine i6_ (vals := []) (r := .string (txt l)) (new := []) (fun B w h hB => (Any.Builder_String_any_k Tryz.lays169 Tryz.Builder_Extra_169 B b l w h hB).mono (by
  rintro en w' ⟨rfl, h1, h2, _⟩
  refine ⟨rfl, ?_, h2⟩
  rw [append_nil]; exact h1)) (by rw [append_nil]; exact hk)
theorem hB_ (s : List UInt8) (hs : s.length ≤ 1048576) (h : List Row) : aa_ Tryz.prog 159 [.val (.string (txt s)), .val (.string (txt [0])), .val (.string (txt [0, 255]))] h (.val (.string (txt (esc s)))) := by
 refine n4_ (vals := [.string (txt s), .string (txt [0]), .string (txt [0, 255])]) (fun w hM => ?_) h
 obtain ⟨m, hm⟩ := hM (Tryz.lays155_ren.g 1) (by kernel_rfl)
 have hc : Lib.countB (txt s) (txt [0]) ≤ s.length := by
  show Lib.count (txt s).data.toList (txt [0]).data.toList ≤ _
  rw [bA_, bA_, Lib.count_one]; exact count_le_length
 have := Any.strings_ReplaceAll Tryz.lays155 Tryz.Builder_Extra_155 (txt s) (txt [0]) (txt [0, 255]) m w (by rw [cq_]; omega) hm (by rw [cq_]; decide) (by rw [cq_, cq_]; simp only [lc_, ln_]; omega)
 rw [bA_, bA_, bA_, k4_] at this
 exact this
theorem uh_ (n k : Nat) (h : k < (be8 n).length) : (be8 n)[k] = cE_ n (7 - k) := by
 rw [dc_] at h
 rcases (by omega : k = 0 ∨ k = 1 ∨ k = 2 ∨ k = 3 ∨ k = 4 ∨ k = 5 ∨ k = 6 ∨ k = 7) with e | e | e | e | e | e | e | e <;> subst e <;> rfl
theorem mP_ (n k : Nat) (h : k < 8) : (be8 n).take (k + 1) = (be8 n).take k ++ [cE_ n (7 - k)] := by
 rw [take_succ_eq_append_getElem (by rw [dc_]; exact h), uh_]
theorem oW_ (n k : Nat) (h : k = 8) : (be8 n).take k = be8 n := by subst h; rfl
theorem vj_ (n k : Nat) (h : k < 8) : IntKind.u8.wrap ((n : Int).fdiv (2 ^ min (56 - 8 * (k : Int)).toNat 64)) = ((cE_ n (7 - k)).toNat : Int) := by
 have e : (56 - 8 * (k : Int)).toNat = (8 * ((7 - k : Nat) : Int)).toNat := by omega
 rw [e, m9_ _ _ (by omega), kW_]
def wq_ : LC :=
 .q [.q [.o [.m 6 1, .c1 7 156 6], .k 7 (.q [.o [.m 8 1, .c1 9 157 8, .bk 10 .add false 9 1000000000000000000, .s 11 (.convInt .u64 (.tmp 10)), .m 4 11], .o [.m 12 0, .s 13 (.call 146 [.tmp 12, .const (.int .u8 1)])], .q
 [.o [.ki 5 56], .block 0 (.loop (.q [.q [.o [.m 14 5, .bk 15 .geq false 14 0], .k 15 .skip (.exit 0)], .block 1 (.o [.m 18 0, .m 19 4, .m 20 5, .bb 21 .shr false 19 20, .s 22 (.convInt .u8 (.tmp 21)), .c2 23 146 18 22]),
 .o [.m 16 5, .bk 17 .sub false 16 8, .m 5 17]]))], .ret]) .skip], .o [.m 24 0, .s 25 (.call 146 [.tmp 24, .const (.int .u8 2)])], .o [.m 26 0, .m 27 1, .s 28 (.call 159 [.tmp 27, .const (.string ⟨#[0]⟩), .const (.string
 ⟨#[0, 255]⟩)]), .c2 29 158 26 28], .o [.m 30 0, .s 31 (.call 158 [.tmp 30, .const (.string ⟨#[0, 0]⟩)])]]
def th_ : LF := ⟨2, 32, wq_, []⟩
theorem uT_ : av_ Tryz.prog Tryz.f148 th_ := am_
theorem ms_ {b : Nat} {l : List UInt8} {s : ByteArray} (hs : s.size ≤ 1048576) (hl : l.length ≤ 1000000000) {K : AV → Bd → Prop} (hk : K (.tup []) (some (b, l ++ bT_ (bs s)))) : fc_ Tryz.prog 136 5 148 [jT_ b, .val (.string s)] (some (b, l)) K := by
 refine jZ_ (by decide) mixed Tryz.func148 uT_ rfl ?_
 simp (disch := omega) only [th_, wq_, go_sem, ↓reduceIte]
 refine aa_.b rfl (jP_ s hs _) ?_
 have hbl : (bs s).length = s.size := fh_ s
 by_cases q : db_ (bs s) = true
 ·simp (disch := omega) only [q, go_sem, Nat.reduceEqDiff, ↓reduceIte]
  refine aa_.b rfl (lB_ s hs _) ?_
  have hn := dM_ (bs s)
  have hq := gN_ (bs s)
  have hq2 := g9_ (bs s)
  have hkey : bT_ (bs s) = 1 :: be8 (cy_ (bs s)) := by unfold bT_; rw [if_pos q]
  rw [hkey] at hk
  simp (disch := omega) only [go_sem, reduceCtorEq, ↓reduceIte, aq_, ← hq, ns_]
  refine kj_ (c := 1) (by omega) ?_
  simp (disch := omega) only [go_sem]
  refine jY_ (fun n t σ => ∃ k : Nat, t 0 = jT_ b ∧ t 4 = .val (.int .u64 (cy_ (bs s))) ∧ t 5 = .val (.int .i64 (56 - 8 * k)) ∧ σ = some (b, (l ++ [1]) ++ (be8 (cy_ (bs s))).take k) ∧ n = 8 - k ∧ k ≤ 8) 8 ?_ ?_
  ·exact ⟨0, rfl, rfl, rfl, by simp, rfl, by omega⟩
  ·rintro J hJ n t σ ⟨k, t0, t4, t5, rfl, rfl, hk8⟩
   by_cases h8 : k < 8
   ·have hlt : (0 : Int) ≤ 56 - 8 * k := by omega
    have hlen : ((be8 (cy_ (bs s))).take k).length ≤ 8 := by rw [length_take, dc_]; omega
    simp (disch := omega) only [t0, t4, t5, hlt, lp_, vj_, go_sem, Nat.reduceEqDiff, reduceCtorEq, ↓reduceIte]
    refine kj_ (by simp only [la_, lc_]; omega) ?_
    simp (disch := omega) only [t5, aq_, go_sem, Nat.reduceEqDiff, ↓reduceIte]
    exact ⟨8 - (k + 1), by omega, hJ _ _ _ ⟨k + 1, by simp [upd, t0], by simp [upd, t4], by simp [upd]; omega, by rw [mP_ _ _ h8]; simp, rfl, by omega⟩⟩
   ·have hlt : ¬ (0 : Int) ≤ 56 - 8 * k := by omega
    simp (disch := omega) only [t5, hlt, go_sem, ↓reduceIte]
    rw [oW_ _ _ (by omega)]
    simpa using hk
 ·have q' : db_ (bs s) = false := by simpa using q
  have hkey : bT_ (bs s) = 2 :: (esc (bs s) ++ [0, 0]) := by unfold bT_; rw [if_neg q]
  have he := il_ (bs s)
  rw [hkey] at hk
  simp (disch := omega) only [q', go_sem, reduceCtorEq, ↓reduceIte]
  refine kj_ (c := 2) (by omega) ?_
  simp (disch := omega) only [go_sem, Nat.reduceEqDiff, reduceCtorEq, ↓reduceIte]
  refine aa_.b rfl (by
   have := hB_ (bs s) (by omega) []
   rw [fV_] at this
   exact this) ?_
  simp (disch := omega) only [go_sem, Nat.reduceEqDiff, ↓reduceIte]
  refine vz_ (by simp only [la_, lc_, ln_]; omega) (fun r1 => ?_)
  simp (disch := omega) only [go_sem, reduceCtorEq, ↓reduceIte]
  refine vz_ (by simp only [la_, lc_, ln_]; omega) (fun r2 => ?_)
  simp (disch := omega) only [go_sem]
  simpa using hk
def nh_ (xs : List ByteArray) : List UInt8 := if ba_ xs = true then b7_ (bss xs) else []
theorem m8_ (xs ys : List (List UInt8)) : b7_ (xs ++ ys) = b7_ xs ++ b7_ ys := by simp [b7_]
theorem h9_ {xs : List ByteArray} (h : ba_ xs = true) : xs.length ≤ 4 ∧ ∀ x ∈ xs, 1 ≤ x.size ∧ x.size ≤ 24 := by
 simp only [ba_, Bool.and_eq_true, decide_eq_true_eq, all_eq_true, by_] at h
 exact ⟨by omega, fun x hx => by have := h.2 x hx; omega⟩
theorem jN_ : ∀ (xs : List ByteArray), (∀ x ∈ xs, x.size ≤ 24) → (b7_ (bss xs)).length ≤ 57 * xs.length
 | [], _ => by simp [b7_, bss]
 | x :: xs, h => by
  have h1 := ix_ (bs x)
  have h2 := jN_ xs (fun y hy => h y (mem_cons_of_mem _ hy))
  have h3 := h x mem_cons_self
  rw [fh_] at h1
  rw [bss, map_cons, md_, la_, lc_]
  simp only [bss] at h2
  simp only [bs] at h1
  omega
def vn_ : LC :=
 .q [.o [.s 2 (.mov (.const (.string ⟨#[]⟩)))], .q [.o [.m 6 0, .c1 7 76 6, .nt 8 7], .k 8 (.q [.o [.s 2 (.mov (.const (.string ⟨#[]⟩)))], .ret]) .skip], .o [.s 3 (.alloc 136 (.agg #[.pointer none, .slice none 0 0]))], .q
 [.o [.m 9 0, .ll 10 9, .ki 11 0], .block 0 (.loop (.q [.o [.bb 12 .lss false 11 10], .k 12 .skip (.exit 0), .block 1 (.q [.o [.ia 13 1 9 11, .ln 14 13, .m 5 14], .o [.m 15 5, .c2 16 148 3 15]]), .o [.bk 17 .add false 11
 1, .m 11 17]]))], .o [.c1 18 147 3, .m 2 18], .ret]
def sU_ : LF := ⟨1, 19, vn_, [.tmp 2]⟩
theorem uo_ : av_ Tryz.prog Tryz.f129 sU_ := am_
theorem kd_ (xs : List ByteArray) (hx : xs.length ≤ 1048576) (h : List Row) : aa_ Tryz.prog 129 [.list 0 1 (xs.map aF_)] h (.val (.string (txt (nh_ xs)))) := by
 refine iy_ (T := 136) (e := 5) rfl rfl ?_ h
 refine jZ_ (by decide) mixed Tryz.func129 uo_ rfl ?_
 simp (disch := omega) only [sU_, vn_, go_sem, reduceCtorEq, ↓reduceIte]
 refine aa_.b rfl (bV_ xs hx _) ?_
 by_cases q : ba_ xs = true
 case neg =>
  have q' : ba_ xs = false := by simpa using q
  simp (disch := omega) only [q', go_sem, ↓reduceIte]
  rw [nh_, if_neg q]
 obtain ⟨h4, hm⟩ := h9_ q
 have hz : nC_ = .agg #[.pointer none, .slice none 0 0] := rfl
 simp (disch := omega) only [q, ← hz, go_sem, reduceCtorEq, ↓reduceIte]
 refine fun b => ?_
 refine jY_ (fun n t σ => ∃ k : Nat, t 3 = jT_ b ∧ t 9 = .list 0 1 (xs.map aF_) ∧ t 10 = .val (.int .i64 xs.length) ∧ t 11 = .val (.int .i64 k) ∧ σ = some (b, b7_ (bss (xs.take k))) ∧ n = xs.length - k ∧ k ≤ xs.length) xs.length ?_ ?_
 ·exact ⟨0, rfl, rfl, rfl, rfl, rfl, rfl, by omega⟩
 ·rintro J hJ n t σ ⟨k, t3, t9, t10, t11, rfl, rfl, hk⟩
  by_cases hlt : k < xs.length
  ·have hl1 := jN_ (xs.take k) (fun x hx' => (hm x (mem_of_mem_take hx')).2)
   have hl2 : (xs.take k).length ≤ 4 := by rw [length_take]; omega
   simp (disch := omega) only [t3, t9, t10, t11, hlt, go_sem, Nat.reduceEqDiff, ↓reduceIte]
   refine ms_ (by have := hm _ (getElem_mem hlt); omega) (by omega) ?_
   simp (disch := omega) only [t11, aq_, go_sem, Nat.reduceEqDiff, ↓reduceIte]
   refine ⟨xs.length - (k + 1), by omega, hJ _ _ _ ⟨k + 1, by simp [upd, t3], by simp [upd, t9], by simp [upd, t10], by simp [upd], ?_, rfl, by omega⟩⟩
   rw [take_succ_eq_append_getElem hlt, bss, bss, map_append, m8_]
   simp [b7_]
  ·simp (disch := omega) only [t3, t10, t11, hlt, go_sem, Nat.reduceEqDiff, ↓reduceIte]
   rw [take_of_length_le (by omega)]
   refine s3_ ?_
   simp (disch := omega) only [go_sem, ↓reduceIte]
   rw [nh_, if_pos q]
def i0_ : Option (List UInt8 × List UInt8) → AV
 | some (t, r) => .tup [.val (.string (txt t)), .val (.string (txt r)), .val (.bool true)]
 | none => .tup [.val (.string (txt [])), .val (.string (txt [])), .val (.bool false)]
def v9_ : LC :=
 .q [.o [.s 2 (.mov (.const (.string ⟨#[]⟩))), .s 3 (.mov (.const (.string ⟨#[]⟩))), .f 4], .o [.s 5 (.alloc 136 (.agg #[.pointer none, .slice none 0 0]))], .q [.o [.ki 6 0], .block 0 (.loop (.q [.q [.o [.m 7 6, .bk 8
 .add false 7 1, .m 9 0, .s 10 (.lenStr (.tmp 9)), .bb 11 .lss false 8 10], .k 11 .skip (.exit 0)], .block 1 (.q [.q [.o [.m 14 0, .m 15 6, .s 16 (.indexStr (.tmp 14) (.tmp 15)), .s 17 (.bin .neq false (.tmp 16) (.const
 (.int .u8 0)))], .k 17 (.q [.o [.m 18 0, .m 19 6, .s 20 (.indexStr (.tmp 18) (.tmp 19)), .c2 21 146 5 20], .exit 1]) .skip], .o [.m 22 0, .m 23 6, .bk 24 .add false 23 1, .s 25 (.indexStr (.tmp 22) (.tmp 24))], .block 2
 (.q [.o [.s 27 (.bin .eql false (.tmp 25) (.const (.int .u8 0))), .m 26 27], .k 26 (.q [.dops [.c1 28 147 5, .m 29 0, .m 30 6, .bk 31 .add false 30 2, .s 32 (.sliceStr (.tmp 29) (some (.tmp 31)) none), .m 2 28, .m 3 32,
 .t 4], .ret]) (.q [.o [.s 34 (.bin .eql false (.tmp 25) (.const (.int .u8 255))), .m 33 34], .k 33 (.q [.o [.s 35 (.call 146 [.tmp 5, .const (.int .u8 0)])], .o [.m 36 6, .bk 37 .add false 36 1, .m 6 37]]) (.q [.o [.s 2
 (.mov (.const (.string ⟨#[]⟩))), .s 3 (.mov (.const (.string ⟨#[]⟩))), .f 4], .ret])])])]), .o [.m 12 6, .bk 13 .add false 12 1, .m 6 13]]))], .o [.s 2 (.mov (.const (.string ⟨#[]⟩))), .s 3 (.mov (.const (.string
 ⟨#[]⟩))), .f 4], .ret]
def s1_ : LF := ⟨1, 38, v9_, [.tmp 2, .tmp 3, .tmp 4]⟩
theorem uX_ : av_ Tryz.prog Tryz.f128 s1_ := am_
theorem jj_ (l : List UInt8) (hl : l.length ≤ 1048576) (h : List Row) : aa_ Tryz.prog 128 [.val (.string (txt l))] h (i0_ (bO_ l [])) := by
 refine iy_ (T := 136) (e := 5) (by cases bO_ l [] <;> rfl) rfl ?_ h
 refine jZ_ (by decide) mixed Tryz.func128 uX_ rfl ?_
 have hz : nC_ = .agg #[.pointer none, .slice none 0 0] := rfl
 simp (disch := omega) only [s1_, v9_, ← hz, go_sem]
 refine fun b => ?_
 refine jY_ (fun n t σ => ∃ (i : Nat) (acc : List UInt8), t 0 = .val (.string (txt l)) ∧ t 5 = jT_ b ∧ t 6 = .val (.int .i64 i) ∧ σ = some (b, acc) ∧ n = l.length - i ∧ i ≤ l.length ∧ acc.length ≤ i ∧ bO_ l [] = bO_ (l.drop i) acc) l.length ?_ ?_
 ·exact ⟨0, [], rfl, rfl, rfl, rfl, rfl, by omega, Nat.le_refl _, rfl⟩
 ·rintro J hJ n t σ ⟨i, acc, t0, t5, t6, rfl, rfl, hi, hac, hS⟩
  by_cases hlt : i + 1 < l.length
  ·have hlt' : (i : Int) + 1 < l.length := by omega
   have hlt0 : i < l.length := by omega
   have ei : (i : Int) + 1 = ((i + 1 : Nat) : Int) := by omega
   have ei2 : (i : Int) + 2 = ((i + 2 : Nat) : Int) := by omega
   rw [ky_ l acc i hlt] at hS
   by_cases q : l[i] = 0
   ·rw [if_pos q] at hS
    have q' : ((l[i].toNat : Int) = 0) = True := by simp [q]
    by_cases q1 : l[i + 1] = 0
    ·rw [if_pos q1] at hS
     have q1' : ((l[i + 1].toNat : Int) = 0) = True := by simp [q1]
     simp (disch := omega) only [t0, t5, t6, ei, ei2, hlt, q', q1', aq_, go_sem, reduceEqDiff, reduceCtorEq, ↓reduceIte]
     refine ⟨_, s3_ ⟨rfl, rfl⟩, ?_⟩
     rw [hS, take_length]; rfl
    ·rw [if_neg q1] at hS
     have q1' : ((l[i + 1].toNat : Int) = 0) = False := by rw [eq_iff_iff, iff_false]; intro e; exact q1 (UInt8.toNat_inj.1 (by have h2 : (0 : UInt8).toNat = 0 := rfl; omega))
     by_cases q2 : l[i + 1] = 255
     ·rw [if_pos q2] at hS
      have q2' : ((l[i + 1].toNat : Int) = 255) = True := by simp [q2]
      simp (disch := omega) only [t0, t5, t6, ei, hlt, q', q1', q2', aq_, go_sem, reduceEqDiff, reduceCtorEq, ↓reduceIte]
      refine kj_ (c := 0) (by omega) ?_
      simp (disch := omega) only [t6, ei, aq_, go_sem, reduceEqDiff, ↓reduceIte]
      exact ⟨l.length - (i + 2), by omega, hJ _ _ _ ⟨i + 2, acc ++ [0], by simp [upd, t0], by simp [upd, t5], by simp [upd]; omega, rfl, rfl, by omega, by simp; omega, hS⟩⟩
     ·rw [if_neg q2] at hS
      have q2' : ((l[i + 1].toNat : Int) = 255) = False := by rw [eq_iff_iff, iff_false]; intro e; exact q2 (UInt8.toNat_inj.1 (by have h2 : (255 : UInt8).toNat = 255 := rfl; omega))
      simp (disch := omega) only [t0, t6, ei, hlt, q', q1', q2', aq_, go_sem, reduceEqDiff, reduceCtorEq, ↓reduceIte]
      rw [hS]; rfl
   ·rw [if_neg q] at hS
    have q' : ((l[i].toNat : Int) = 0) = False := by rw [eq_iff_iff, iff_false]; intro e; exact q (UInt8.toNat_inj.1 (by have h2 : (0 : UInt8).toNat = 0 := rfl; omega))
    simp (disch := omega) only [t0, t5, t6, ei, hlt, q', aq_, go_sem, reduceEqDiff, reduceCtorEq, ↓reduceIte]
    refine kj_ (c := l[i]) (by omega) ?_
    simp (disch := omega) only [t6, ei, aq_, go_sem, reduceEqDiff, ↓reduceIte]
    exact ⟨l.length - (i + 1), by omega, hJ _ _ _ ⟨i + 1, acc ++ [l[i]], by simp [upd, t0], by simp [upd, t5], by simp [upd]; try omega, rfl, rfl, by omega, by simp; omega, hS⟩⟩
  ·have hlt' : ¬ (i : Int) + 1 < l.length := by omega
   simp (disch := omega) only [t0, t6, hlt', aq_, go_sem, reduceEqDiff, reduceCtorEq, ↓reduceIte]
   rw [hS, l7_ l acc i (by omega)]; rfl
def lv_ (l : List UInt8) : Option (List UInt8 × List UInt8) := if l.length < 8 then none else if 2000000000000000000 < bK_ 0 (l.take 8) then none else some (fC_ ((bK_ 0 (l.take 8) : Int) - 1000000000000000000), l.drop 8)
theorem x0_ (q : Bool) (a : Int) : bc_ .shl q (.val (.int .u64 a)) (.val (.int .u64 8)) = some (.val (.int .u64 (IntKind.u64.wrap (a * 256)))) := by
 rw [oO_ _ _ _ _ _ (by decide)]; rfl
theorem lO_ (l : List UInt8) (k : Nat) (h : k < l.length) : bK_ 0 (l.take (k + 1)) = bK_ 0 (l.take k) * 256 + l[k].toNat := by
 rw [take_succ_eq_append_getElem h, q9_]
theorem iS_ (l : List UInt8) (k : Nat) (h : k ≤ 7) : bK_ 0 (l.take k) < 72057594037927936 := by
 have h1 := lo_ (l.take k) 0
 have h2 : (l.take k).length ≤ 7 := by rw [length_take]; omega
 have h3 : 256 ^ (l.take k).length ≤ 256 ^ 7 := Nat.pow_le_pow_right (by decide) h2
 omega
theorem it_ (l : List UInt8) : bK_ 0 (l.take 8) < 18446744073709551616 := by
 have h1 := lo_ (l.take 8) 0
 have h2 : (l.take 8).length ≤ 8 := by rw [length_take]; omega
 have h3 : 256 ^ (l.take 8).length ≤ 256 ^ 8 := Nat.pow_le_pow_right (by decide) h2
 omega
theorem po_ (n : Int) : d5_ n = fC_ n := by
 unfold d5_ fC_
 by_cases h : hE_ n = true
 ·rw [if_pos h, if_pos ((gp_ n).1 h)]
 ·rw [if_neg h, if_neg (fun q => h ((gp_ n).2 q))]
def uJ_ : LC :=
 .q [.o [.s 2 (.mov (.const (.string ⟨#[]⟩))), .s 3 (.mov (.const (.string ⟨#[]⟩))), .f 4], .q [.o [.m 7 0, .s 8 (.lenStr (.tmp 7)), .bk 9 .lss false 8 8], .k 9 (.q [.o [.s 2 (.mov (.const (.string ⟨#[]⟩))), .s 3 (.mov
 (.const (.string ⟨#[]⟩))), .f 4], .ret]) .skip], .o [.s 5 (.mov (.const (.int .u64 0)))], .q [.o [.ki 10 0], .block 0 (.loop (.q [.o [.bk 11 .lss false 10 8], .k 11 .skip (.exit 0), .block 1 (.q [.o [.m 12 10, .m 6 12],
 .o [.m 13 5, .s 14 (.bin .shl false (.tmp 13) (.const (.int .u64 8))), .m 15 0, .m 16 6, .s 17 (.indexStr (.tmp 15) (.tmp 16)), .s 18 (.convInt .u64 (.tmp 17)), .bb 19 .add false 14 18, .m 5 19]]), .o [.bk 20 .add false
 10 1, .m 10 20]]))], .q [.o [.m 21 5, .s 22 (.bin .gtr false (.tmp 21) (.const (.int .u64 2000000000000000000)))], .k 22 (.q [.o [.s 2 (.mov (.const (.string ⟨#[]⟩))), .s 3 (.mov (.const (.string ⟨#[]⟩))), .f 4], .ret])
 .skip], .dops [.m 23 5, .s 24 (.convInt .i64 (.tmp 23)), .bk 25 .sub false 24 1000000000000000000, .c1 26 145 25, .m 27 0, .s 28 (.sliceStr (.tmp 27) (some (.const (.int .i64 8))) none), .m 2 26, .m 3 28, .t 4], .ret]
def tk_ : LF := ⟨1, 29, uJ_, [.tmp 2, .tmp 3, .tmp 4]⟩
theorem u0_ : av_ Tryz.prog Tryz.f127 tk_ := am_
theorem jk_ (l : List UInt8) (hl : l.length ≤ 1048576) (h : List Row) : aa_ Tryz.prog 127 [.val (.string (txt l))] h (i0_ (lv_ l)) := by
 refine ap_ mixed Tryz.func127 u0_ rfl rfl ?_ h
 simp (disch := omega) only [tk_, uJ_, go_sem, reduceCtorEq, ↓reduceIte]
 by_cases h8 : (l.length : Int) < 8
 ·simp (disch := omega) only [h8, go_sem, reduceEqDiff, ↓reduceIte]
  rw [lv_, if_pos (by omega)]
  exact ⟨2, rfl⟩
 simp (disch := omega) only [h8, go_sem]
 refine aB_ (fun n t h => ∃ k : Nat, t 0 = .val (.string (txt l)) ∧ t 5 = .val (.int .u64 (bK_ 0 (l.take k))) ∧ t 10 = .val (.int .i64 k) ∧ h = [] ∧ n = 8 - k ∧ k ≤ 8) 8 ?_ ?_
 ·exact ⟨0, rfl, rfl, rfl, rfl, rfl, by omega⟩
 rintro J hJ n t h ⟨k, t0, t5, t10, rfl, rfl, hk⟩
 by_cases hlt : k < 8
 ·have hkl : k < l.length := by omega
  have hkI : (k : Int) < 8 := by omega
  have hb := iS_ l k (by omega)
  have hu := kk_ l[k]
  simp (disch := omega) only [t0, t5, t10, hkI, x0_, rV_, ns_, aq_, go_sem, reduceEqDiff, reduceCtorEq, ↓reduceIte]
  exact ⟨8 - (k + 1), by omega, hJ _ _ _ ⟨k + 1, by simp [upd, t0], by simp only [upd]; rw [lO_ l k hkl]; simp, by simp [upd], rfl, rfl, by omega⟩⟩
 ·have hk8 : k = 8 := by omega
  have hkI : ¬ (k : Int) < 8 := by omega
  rw [hk8] at t5
  have hb := it_ l
  by_cases hg : (2000000000000000000 : Int) < (bK_ 0 (l.take 8) : Nat)
  ·simp (disch := omega) only [t5, t10, hkI, hg, go_sem, reduceEqDiff, ↓reduceIte]
   rw [lv_, if_neg (by omega), if_pos (by omega)]
   exact ⟨2, rfl⟩
  ·simp (disch := omega) only [t0, t5, t10, hkI, hg, aq_, go_sem, reduceEqDiff, reduceCtorEq, Int.reduceLE, Int.reduceToNat, ↓reduceIte]
   refine aa_.q (gT_ _ _) ?_
   rw [lv_, if_neg (by omega), if_neg (by omega), po_, take_length]
   exact ⟨2, rfl⟩
abbrev dk_ (out : List (List UInt8)) : List (List AV) := (out.map txt).map aF_
theorem nn_ (out : List (List UInt8)) : bss (out.map txt) = out := by
 rw [bss, map_map]
 conv => rhs; rw [← map_id out]
 exact map_congr_left fun x _ => bA_ x
theorem di_ (out : List (List UInt8)) : ba_ (out.map txt) = dL_ out := by
 rw [Bool.eq_iff_iff]
 simp only [ba_, dL_, by_, vK_, length_map, all_map, Bool.and_eq_true, decide_eq_true_eq, all_eq_true, Function.comp, cq_]
 constructor
 ·rintro ⟨h1, h2⟩
  exact ⟨by omega, fun x hx => by have := h2 x hx; omega⟩
 ·rintro ⟨h1, h2⟩
  exact ⟨by omega, fun x hx => by have := h2 x hx; omega⟩
theorem eQ_ (l : List UInt8) (h : 0 < l.length) : cV_ l = if l[0] = 1 then lv_ (l.drop 1) else if l[0] = 2 then bO_ (l.drop 1) [] else none := by
 cases l with
 | nil => simp at h
 | cons b l => rfl
theorem hq_ : i0_ none = .tup [.val (.string (txt [])), .val (.string (txt [])), .val (.bool false)] := rfl
theorem hu_ (t r : List UInt8) : i0_ (some (t, r)) = .tup [.val (.string (txt t)), .val (.string (txt r)), .val (.bool true)] := rfl
def cZ_ (s : ByteArray) : List ByteArray × Bool :=
 match eP_ cV_ (bs s) with
 | some xs => (xs.map txt, true)
 | none => ([], false)
abbrev mG_ (p : List ByteArray × Bool) : AV := .tup [.list 0 1 (p.1.map aF_), .val (.bool p.2)]
theorem iP_ {s : ByteArray} (h : cb_ cV_ 5 (bs s) [] = none) : cZ_ s = ([], false) := by
 rw [cZ_, eP_, h]
theorem k1_ {s : ByteArray} {out : List (List UInt8)} {left : List UInt8} (h : cb_ cV_ 5 (bs s) [] = some (out, left)) (q : ¬ (left = [] ∧ dL_ out = true ∧ b7_ out = bs s)) : cZ_ s = ([], false) := by
 rw [cZ_, eP_, h]; simp only; rw [if_neg q]
theorem sy_ {s : ByteArray} {out : List (List UInt8)} (h : cb_ cV_ 5 (bs s) [] = some (out, [])) (h2 : dL_ out = true) (h3 : b7_ out = bs s) : cZ_ s = (out.map txt, true) := by
 simp [cZ_, eP_, h, h2, h3]
theorem qo_ {out : List (List UInt8)} (h : dL_ out = true) : out.length ≤ 4 := by
 simp only [dL_, Bool.and_eq_true, decide_eq_true_eq] at h; exact h.1
theorem mB_ (out : List (List UInt8)) : ∀ e ∈ dk_ out, e.all AV.flat = true := by
 intro e he
 obtain ⟨x, _, q⟩ := mem_map.1 he; subst q; rfl
theorem nS_ (h0 : List Row) (out : List (List UInt8)) (rest : List Row) : [AV.own h0.length out.length].mapM (AW.resolve (h0 ++ ⟨9, 1, dk_ out⟩ :: rest) 2) = some [.list 0 1 (dk_ out)] :=
 h1_ (gr_ (n := 0) (r := ⟨9, 1, dk_ out⟩) (by rw [gb_]; rfl) (by simp) (mB_ out))
theorem c8_ {base l : Nat} {H : List Row} {E : Tag} {out : List ByteArray} (hl : H[l]? = some ⟨E, 1, out.map aF_⟩) (hb : base ≤ l) : az_ base (l + 1) H (.own l out.length) (.list 0 1 (out.map aF_)) :=
 az_.mkown (lo := l + 1) (hi := l + 1) (bm_.ofVals _ _ _ _ (by
  intro e he c hc
  obtain ⟨x, _, q⟩ := mem_map.1 he; subst q
  simp only [aF_, mem_singleton] at hc
  exact ⟨_, hc⟩)) hl (by simp) hb (Nat.lt_succ_self _) (Nat.le_refl _)
theorem cj_ {lo hi : Nat} {H : List Row} {a r : AV} (h : az_ lo hi H a r) (hlh : lo ≤ hi) (v : Value) : bP_ lo H (.tup [a, .val v]) (.tup [r, .val v]) :=
 (az_.tup (aJ_.cons h (aJ_.val v (aJ_.nil hi hi H)) ⟨hlh, Nat.le_refl _⟩)).fresh
theorem qJ_ {out : List (List UInt8)} (h : dL_ out = true) : nh_ (out.map txt) = b7_ out := by
 rw [nh_, di_, if_pos h, nn_]
theorem lY_ (take : List UInt8 → Option (List UInt8 × List UInt8)) (f : Nat) (l : List UInt8) (out : List (List UInt8)) (h : l ≠ []) : cb_ take (f + 1) l out = match take l with
 | none => none
 | some (t, r) => cb_ take f r (out ++ [t]) := by
 rw [cb_, if_neg h]; cases take l <;> rfl
theorem jB_ (l : List UInt8) : (txt l = txt []) = (l = []) := oQ_ l []
def c97 : LC :=
 .q [.o [.nl 2, .f 3], .o [.s 8 (.buildSlice 9 1 (.string ⟨#[]⟩) 0 []), .m 9 0, .m 4 8, .m 5 9], .block 0 (.loop (.q [.q [.o [.m 10 5, .s 11 (.bin .neq false (.tmp 10) (.const (.string ⟨#[]⟩))), .m 12 11, .gm 13 12 true
 4, .g 14 12 true (.lenSl (.tmp 13)), .g 15 12 true (.bin .leq false (.tmp 14) (.const (.int .i64 4))), .pf 16 12 15], .k 16 .skip (.exit 0)], .block 1 (.q [.o [.s 6 (.mov (.const (.string ⟨#[]⟩)))], .o [.f 7], .q [.o [.m
 17 5, .s 18 (.indexStr (.tmp 17) (.const (.int .i64 0)))], .block 2 (.q [.o [.s 20 (.bin .eql false (.tmp 18) (.const (.int .u8 1))), .m 19 20], .k 19 (.o [.m 22 5, .s 23 (.sliceStr (.tmp 22) (some (.const (.int .i64
 1))) none), .c1 24 127 23, .m 21 24, .ex 25 21 0, .ex 26 21 1, .ex 27 21 2, .m 6 25, .m 5 26, .m 7 27]) (.q [.o [.s 29 (.bin .eql false (.tmp 18) (.const (.int .u8 2))), .m 28 29], .k 28 (.o [.m 31 5, .s 32 (.sliceStr
 (.tmp 31) (some (.const (.int .i64 1))) none), .c1 33 128 32, .m 30 33, .ex 34 30 0, .ex 35 30 1, .ex 36 30 2, .m 6 34, .m 5 35, .m 7 36]) .skip])])], .q [.o [.m 37 7, .nt 38 37], .k 38 (.q [.o [.nl 2, .f 3], .ret])
 .skip], .o [.m 39 4, .m 40 6, .s 41 (.buildSlice 9 1 (.string ⟨#[]⟩) 1 [(0, .tmp 40)]), .ap 42 9 1 16 39 41, .m 4 42]])])), .q [.o [.m 43 4, .c1 44 76 43, .nt 45 44, .m 46 45, .gm 47 46 false 4, .gc 48 46 false 129 47,
 .gm 49 46 false 0, .g 50 46 false (.bin .neq false (.tmp 48) (.tmp 49)), .pt 51 46 50], .k 51 (.q [.o [.nl 2, .f 3], .ret]) .skip], .o [.m 52 4, .m 2 52, .t 3], .ret]
def uQ_ : LF := ⟨1, 53, c97, [.tmp 2, .tmp 3]⟩
theorem xs_ : av_ Tryz.prog Tryz.f97 uQ_ := am_
theorem iY_ (s : ByteArray) (hs : s.size ≤ 1048576) : bh_ Tryz.prog 97 [.val (.string s)] (mG_ (cZ_ s)) (fun a => ∃ b q, a = .tup [b, .val (.bool q)]) := by
 refine dP_ mixed Tryz.func97 xs_ rfl (fun h0 => ?_)
 have hbl := fh_ s
 simp (disch := omega) only [uQ_, c97, go_sem, reduceEqDiff, reduceCtorEq, ↓reduceIte]
 refine aB_ (fun n t h => ∃ (out : List (List UInt8)) (left : List UInt8) (rest : List Row), t 0 = .val (.string s) ∧ t 4 = .own h0.length out.length ∧ t 5 = .val (.string (txt left)) ∧ h = h0 ++ ⟨9, 1, dk_ out⟩ :: rest ∧ n = 5 - out.length ∧ out.length ≤ 5 ∧ left.length ≤ s.size ∧ cb_ cV_ 5 (bs s) [] = cb_ cV_ (5 - out.length) left out) 5 ?_ ?_
 ·exact ⟨[], bs s, [], rfl, rfl, by rw [fV_]; rfl, rfl, rfl, by simp, Nat.le_of_eq (fh_ s), rfl⟩
 rintro J hJ n t h ⟨out, left, rest, t0, t4, t5, rfl, rfl, ho, hle, hS⟩
 have fl : (dk_ out).length = out.length := by simp
 have hA := nS_ h0 out rest
 by_cases q0 : left = []
 ·subst q0
  have hR : cb_ cV_ 5 (bs s) [] = some (out, []) := by
   rw [hS]; cases 5 - out.length with
   | zero => rw [cb_]
   | succ f => rw [cb_, if_pos rfl]
  have q0' : (txt ([] : List UInt8) = txt []) = True := by simp
  simp (disch := omega) only [t4, t5, fl, ar_, go_sem, reduceEqDiff, reduceLeDiff, Int.reduceLE, Int.reduceToNat, ↓reduceIte]
  refine aa_.call (AW.frozen (bV_ (out.map txt) (by simp; omega)) hA) ?_
  by_cases s1 : dL_ out = true
  case neg =>
   have s1' : ba_ (out.map txt) = false := by rw [di_]; simpa using s1
   simp (disch := omega) only [t4, s1', ar_, go_sem, reduceEqDiff, ↓reduceIte]
   rw [k1_ hR (fun q => s1 q.2.1)]
   exact ⟨_, rfl, cj_ (az_.mknil _ _ _ 1) (Nat.le_refl _) _, _, _, rfl⟩
  have s1' : ba_ (out.map txt) = true := by rw [di_]; exact s1
  simp (disch := omega) only [t4, s1', go_sem, reduceEqDiff, ↓reduceIte]
  refine aa_.call (AW.frozen (kd_ (out.map txt) (by simp; omega)) hA) ?_
  rw [qJ_ s1]
  by_cases s2 : b7_ out = bs s
  case neg =>
   have s2' : (txt (b7_ out) = s) = False := by rw [eq_iff_iff, iff_false]; intro e; exact s2 (by rw [← e]; exact (bA_ _).symm)
   simp (disch := omega) only [t0, t4, s2', ar_, go_sem, reduceEqDiff, reduceCtorEq, ↓reduceIte]
   rw [k1_ hR (fun q => s2 q.2.2)]
   exact ⟨_, rfl, cj_ (az_.mknil _ _ _ 1) (Nat.le_refl _) _, _, _, rfl⟩
  have s2' : (txt (b7_ out) = s) = True := by rw [s2, fV_]; simp
  simp (disch := omega) only [t0, t4, s2', ar_, go_sem, reduceEqDiff, reduceCtorEq, ↓reduceIte]
  rw [sy_ hR s1 s2]
  have hz := cj_ (c8_ (base := h0.length) (l := h0.length) (E := 9) (out := out.map txt) (H := h0 ++ ⟨9, 1, dk_ out⟩ :: rest) (by rw [gb_]; rfl) (Nat.le_refl _)) (by omega) (.bool true)
  rw [length_map] at hz
  exact ⟨_, rfl, hz, _, _, rfl⟩
 ·have hpos : 0 < left.length := by cases left with
   | nil => exact absurd rfl q0
   | cons b l => simp
  have q0' : (txt left = txt []) = False := by rw [jB_]; simp [q0]
  by_cases q4 : out.length ≤ 4
  ·have q4' : (out.length : Int) ≤ 4 := by omega
   have e5 : 5 - out.length = (4 - out.length) + 1 := by omega
   rw [e5, lY_ cV_ (4 - out.length) left out q0] at hS
   have hdl : (left.drop 1).length ≤ 1048576 := by rw [length_drop]; omega
   by_cases q1 : left[0] = 1
   ·have q1' : ((left[0].toNat : Int) = 1) = True := by simp [q1]
    simp (disch := omega) only [t4, t5, q0', q4', q1', fl, take_length, ar_, go_sem, reduceEqDiff, reduceLeDiff, Int.reduceLE, Int.reduceToNat, ↓reduceIte]
    have hc := fun h => jk_ (left.drop 1) hdl h
    cases hn : lv_ (left.drop 1) with
    | none =>
     rw [hn, hq_] at hc
     rw [eQ_ left hpos, if_pos q1, hn] at hS
     refine aa_.call (hc _) ?_
     simp (disch := omega) only [t4, fl, ar_, go_sem, reduceEqDiff, reduceLeDiff, ↓reduceIte]
     rw [iP_ (by rw [hS])]
     exact ⟨_, rfl, cj_ (az_.mknil _ _ _ 1) (Nat.le_refl _) _, _, _, rfl⟩
    | some p =>
     obtain ⟨x, r⟩ := p
     rw [hn, hu_] at hc
     have hlen := lW_ left x r (by rw [eQ_ left hpos, if_pos q1, hn])
     rw [eQ_ left hpos, if_pos q1, hn] at hS
     refine aa_.call (hc _) ?_
     simp (disch := omega) only [t4, fl, ar_, go_sem, reduceEqDiff, reduceLeDiff, ↓reduceIte]
     refine ⟨by omega, by omega, ?_⟩
     try simp (disch := omega) only [t0, t4, t5, q0', q4', fl, ar_, go_sem, reduceEqDiff, Nat.reduceAdd, reduceLeDiff, reduceCtorEq, Int.reduceLT, Int.reduceLE, Int.reduceNeg, Int.reduceSub, Int.reduceAdd, Int.reduceToNat, ↓reduceIte]
     exact ⟨5 - (out.length + 1), by omega, hJ _ _ _ ⟨out ++ [x], r, rest ++ [⟨9, 1, [[.val (.string (txt x))]]⟩], by simp [upd, t0], by simp [upd], by simp [upd], by simp [aF_], by simp, by simp; omega, by omega, by simpa [Nat.sub_sub] using hS⟩⟩
   ·have q1' : ((left[0].toNat : Int) = 1) = False := by rw [eq_iff_iff, iff_false]; intro e; exact q1 (UInt8.toNat_inj.1 (by have h2 : (1 : UInt8).toNat = 1 := rfl; omega))
    by_cases q2 : left[0] = 2
    ·have q2' : ((left[0].toNat : Int) = 2) = True := by simp [q2]
     simp (disch := omega) only [t4, t5, q0', q4', q1', q2', fl, take_length, ar_, go_sem, reduceEqDiff, reduceLeDiff, Int.reduceLE, Int.reduceToNat, ↓reduceIte]
     have hc := fun h => jj_ (left.drop 1) hdl h
     cases hn : bO_ (left.drop 1) [] with
     | none =>
      rw [hn, hq_] at hc
      rw [eQ_ left hpos, if_neg q1, if_pos q2, hn] at hS
      refine aa_.call (hc _) ?_
      simp (disch := omega) only [t4, fl, ar_, go_sem, reduceEqDiff, reduceLeDiff, ↓reduceIte]
      rw [iP_ (by rw [hS])]
      exact ⟨_, rfl, cj_ (az_.mknil _ _ _ 1) (Nat.le_refl _) _, _, _, rfl⟩
     | some p =>
      obtain ⟨x, r⟩ := p
      rw [hn, hu_] at hc
      have hlen := lW_ left x r (by rw [eQ_ left hpos, if_neg q1, if_pos q2, hn])
      rw [eQ_ left hpos, if_neg q1, if_pos q2, hn] at hS
      refine aa_.call (hc _) ?_
      simp (disch := omega) only [t4, fl, ar_, go_sem, reduceEqDiff, reduceLeDiff, ↓reduceIte]
      refine ⟨by omega, by omega, ?_⟩
      try simp (disch := omega) only [t0, t4, t5, q0', q4', fl, ar_, go_sem, reduceEqDiff, Nat.reduceAdd, reduceLeDiff, reduceCtorEq, Int.reduceLT, Int.reduceLE, Int.reduceNeg, Int.reduceSub, Int.reduceAdd, Int.reduceToNat, ↓reduceIte]
      exact ⟨5 - (out.length + 1), by omega, hJ _ _ _ ⟨out ++ [x], r, rest ++ [⟨9, 1, [[.val (.string (txt x))]]⟩], by simp [upd, t0], by simp [upd], by simp [upd], by simp [aF_], by simp, by simp; omega, by omega, by simpa [Nat.sub_sub] using hS⟩⟩
    ·have q2' : ((left[0].toNat : Int) = 2) = False := by rw [eq_iff_iff, iff_false]; intro e; exact q2 (UInt8.toNat_inj.1 (by have h2 : (2 : UInt8).toNat = 2 := rfl; omega))
     rw [eQ_ left hpos, if_neg q1, if_neg q2] at hS
     simp (disch := omega) only [t4, t5, q0', q4', q1', q2', fl, take_length, ar_, go_sem, reduceEqDiff, reduceLeDiff, Int.reduceLE, Int.reduceToNat, ↓reduceIte]
     rw [iP_ (by rw [hS])]
     exact ⟨_, rfl, cj_ (az_.mknil _ _ _ 1) (Nat.le_refl _) _, _, _, rfl⟩
  ·have q4' : ¬ (out.length : Int) ≤ 4 := by omega
   have e0 : 5 - out.length = 0 := by omega
   have hR : cb_ cV_ 5 (bs s) [] = some (out, left) := by rw [hS, e0, cb_]
   have s1 : ¬ dL_ out = true := fun q => q4 (qo_ q)
   simp (disch := omega) only [t4, t5, q0', q4', fl, ar_, go_sem, reduceEqDiff, reduceLeDiff, Int.reduceLE, Int.reduceToNat, ↓reduceIte]
   refine aa_.call (AW.frozen (bV_ (out.map txt) (by simp; omega)) hA) ?_
   have s1' : ba_ (out.map txt) = false := by rw [di_]; simpa using s1
   simp (disch := omega) only [t4, s1', ar_, go_sem, reduceEqDiff, ↓reduceIte]
   rw [k1_ hR (fun q => s1 q.2.1)]
   exact ⟨_, rfl, cj_ (az_.mknil _ _ _ 1) (Nat.le_refl _) _, _, _, rfl⟩
theorem gM_ (s : ByteArray) (hs : s.size ≤ 1048576) (h : List Row) : aa_ Tryz.prog 97 [.val (.string s)] h (mG_ (cZ_ s)) := (iY_ s hs).pure rfl h
theorem xD_ (q : Bool) (a : Int) : bc_ .shl q (.val (.int .i64 a)) (.val (.int .u64 8)) = some (.val (.int .i64 (IntKind.i64.wrap (a * 256)))) := by
 rw [oO_ _ _ _ _ _ (by decide)]; rfl
theorem or8 (q : Bool) (x b : Nat) (h : b < 256) (hx : x < 72057594037927936) : bc_ .or q (.val (.int .i64 (IntKind.i64.wrap ((IntKind.i64.wrap (x : Int)) * 256)))) (.val (.int .i64 (b : Int))) = some (.val (.int .i64 (IntKind.i64.wrap ((x * 256 + b : Nat) : Int)))) := by
 have h8 : (2 : Int) ^ (min (8 : Int).toNat 64) = 256 := by decide
 have := tO_ x b h (by omega)
 rw [h8] at this
 rw [tp_, this, Nat.mod_eq_of_lt (by omega)]
theorem xU_ (q : Bool) (x b : Nat) (h : b < 256) (hx : x < 72057594037927936) : bc_ .or q (.val (.int .i64 (IntKind.i64.wrap ((x : Int) * 256)))) (.val (.int .i64 (b : Int))) = some (.val (.int .i64 (IntKind.i64.wrap ((x * 256 + b : Nat) : Int)))) := by
 have := or8 q x b h hx
 rwa [aq_ (n := (x : Int)) (by omega) (by omega)] at this
def vM_ : LC :=
 .q [.o [.ki 2 0], .o [.ki 3 0], .q [.o [.ki 4 0], .block 0 (.loop (.q [.q [.o [.m 5 4, .bk 6 .lss false 5 8], .k 6 .skip (.exit 0)], .block 1 (.o [.m 9 3, .s 10 (.bin .shl false (.tmp 9) (.const (.int .u64 8))), .m 11 0,
 .m 12 4, .s 13 (.indexStr (.tmp 11) (.tmp 12)), .s 14 (.convInt .i64 (.tmp 13)), .bb 15 .or false 10 14, .m 3 15]), .o [.m 7 4, .bk 8 .add false 7 1, .m 4 8]]))], .o [.m 16 3, .m 2 16], .ret]
def sV_ : LF := ⟨1, 17, vM_, [.tmp 2]⟩
theorem v4_ : av_ Tryz.prog Tryz.f121 sV_ := am_
theorem k9_ (l : List UInt8) (hl : l.length = 8) (h : List Row) : aa_ Tryz.prog 121 [.val (.string (txt l))] h (.val (.int .i64 (IntKind.i64.wrap (bK_ 0 l)))) := by
 refine ap_ mixed Tryz.func121 v4_ rfl rfl ?_ h
 simp (disch := omega) only [sV_, vM_, go_sem]
 refine aB_ (fun n t h => ∃ k : Nat, t 0 = .val (.string (txt l)) ∧ t 3 = .val (.int .i64 (IntKind.i64.wrap (bK_ 0 (l.take k)))) ∧ t 4 = .val (.int .i64 k) ∧ h = [] ∧ n = 8 - k ∧ k ≤ 8) 8 ?_ ?_
 ·exact ⟨0, rfl, by rw [take_zero, nP_]; rfl, rfl, rfl, rfl, by omega⟩
 rintro J hJ n t h ⟨k, t0, t3, t4, rfl, rfl, hk⟩
 by_cases hlt : k < 8
 ·have hkl : k < l.length := by omega
  have hkI : (k : Int) < 8 := by omega
  have hb := iS_ l k (by omega)
  have hu := kk_ l[k]
  simp (disch := omega) only [t0, t3, t4, hkI, xD_, xU_, aq_, go_sem, reduceEqDiff, reduceCtorEq, ↓reduceIte]
  exact ⟨8 - (k + 1), by omega, hJ _ _ _ ⟨k + 1, by simp [upd, t0], by rw [lO_ l k hkl]; simp [upd], by simp [upd], rfl, rfl, by omega⟩⟩
 ·have hkI : ¬ (k : Int) < 8 := by omega
  simp (disch := omega) only [t3, t4, hkI, go_sem, reduceEqDiff, ↓reduceIte]
  rw [take_of_length_le (by omega)]
  exact ⟨1, rfl⟩
theorem su_ (l : List UInt8) (h : 0 < l.length) : cG_ l = if l[0] = 1 ∧ 9 ≤ l.length then (if 1 ≤ bK_ 0 ((l.drop 1).take 8) ∧ bK_ 0 ((l.drop 1).take 8) ≤ 1999999999999999999 then some (bw_ ((bK_ 0 ((l.drop 1).take 8) : Int) - 1000000000000000000), (l.drop 1).drop 8) else none) else if l[0] = 2 then bO_ (l.drop 1) [] else none := by
 cases l with
 | nil => simp at h
 | cons b l =>
  have e : (9 ≤ (b :: l).length) = (8 ≤ l.length) := by simp
  rw [cG_]
  simp only [e, getElem_cons_zero, drop_succ_cons, drop_zero]
theorem oh_ (N : Nat) (h : N < 18446744073709551616) : cv_ (IntKind.i64.wrap (N : Int)) 1 1999999999999999999 = decide (1 ≤ N ∧ N ≤ 1999999999999999999) := by
 rw [cv_, IntKind.wrap_i64, Bool.eq_iff_iff]
 simp only [Bool.and_eq_true, decide_eq_true_eq]
 omega
def c87 : LC :=
 .q [.o [.s 2 (.mov (.const (.string ⟨#[]⟩))), .s 3 (.mov (.const (.string ⟨#[]⟩))), .f 4], .q [.o [.m 8 0, .s 9 (.indexStr (.tmp 8) (.const (.int .i64 0))), .s 10 (.bin .eql false (.tmp 9) (.const (.int .u8 1))), .m 11
 10, .gm 12 11 true 0, .g 13 11 true (.lenStr (.tmp 12)), .g 14 11 true (.bin .geq false (.tmp 13) (.const (.int .i64 9))), .pf 15 11 14], .k 15 (.q [.o [.m 16 0, .s 17 (.sliceStr (.tmp 16) (some (.const (.int .i64 1)))
 (some (.const (.int .i64 9)))), .c1 18 121 17, .m 5 18], .q [.o [.m 19 5, .s 20 (.call 61 [.tmp 19, .const (.int .i64 1), .const (.int .i64 1999999999999999999)]), .nt 21 20], .k 21 (.q [.o [.s 2 (.mov (.const (.string
 ⟨#[]⟩))), .s 3 (.mov (.const (.string ⟨#[]⟩))), .f 4], .ret]) .skip], .dops [.m 22 5, .bk 23 .sub false 22 1000000000000000000, .c1 24 122 23, .m 25 0, .s 26 (.sliceStr (.tmp 25) (some (.const (.int .i64 9))) none), .m 2
 24, .m 3 26, .t 4], .ret]) .skip], .q [.o [.m 27 0, .s 28 (.indexStr (.tmp 27) (.const (.int .i64 0))), .s 29 (.bin .neq false (.tmp 28) (.const (.int .u8 2)))], .k 29 (.q [.o [.s 2 (.mov (.const (.string ⟨#[]⟩))), .s 3
 (.mov (.const (.string ⟨#[]⟩))), .f 4], .ret]) .skip], .o [.s 30 (.buildSlice 5 1 (.int .u8 0) 0 []), .m 6 30], .q [.o [.ki 7 1], .block 0 (.loop (.q [.q [.o [.m 31 7, .bk 32 .add false 31 1, .m 33 0, .s 34 (.lenStr
 (.tmp 33)), .bb 35 .lss false 32 34], .k 35 .skip (.exit 0)], .block 1 (.q [.q [.o [.m 38 0, .m 39 7, .s 40 (.indexStr (.tmp 38) (.tmp 39)), .s 41 (.bin .neq false (.tmp 40) (.const (.int .u8 0)))], .k 41 (.q [.o [.m 42
 6, .m 43 0, .m 44 7, .s 45 (.indexStr (.tmp 43) (.tmp 44)), .s 46 (.buildSlice 5 1 (.int .u8 0) 1 [(0, .tmp 45)]), .ap 47 5 1 1 42 46, .m 6 47], .exit 1]) .skip], .q [.o [.m 48 0, .m 49 7, .bk 50 .add false 49 1, .s 51
 (.indexStr (.tmp 48) (.tmp 50)), .s 52 (.bin .eql false (.tmp 51) (.const (.int .u8 0)))], .k 52 (.q [.dops [.m 53 6, .s 54 (.toStr (.tmp 53)), .m 55 0, .m 56 7, .bk 57 .add false 56 2, .s 58 (.sliceStr (.tmp 55) (some
 (.tmp 57)) none), .m 2 54, .m 3 58, .t 4], .ret]) .skip], .q [.o [.m 59 0, .m 60 7, .bk 61 .add false 60 1, .s 62 (.indexStr (.tmp 59) (.tmp 61)), .s 63 (.bin .neq false (.tmp 62) (.const (.int .u8 255)))], .k 63 (.q [.o
 [.s 2 (.mov (.const (.string ⟨#[]⟩))), .s 3 (.mov (.const (.string ⟨#[]⟩))), .f 4], .ret]) .skip], .o [.m 64 6, .s 65 (.buildSlice 5 1 (.int .u8 0) 1 [(0, .const (.int .u8 0))]), .ap 66 5 1 1 64 65, .m 6 66], .o [.m 67
 7, .bk 68 .add false 67 1, .m 7 68]]), .o [.m 36 7, .bk 37 .add false 36 1, .m 7 37]]))], .o [.s 2 (.mov (.const (.string ⟨#[]⟩))), .s 3 (.mov (.const (.string ⟨#[]⟩))), .f 4], .ret]
def wi_ : LF := ⟨1, 69, c87, [.tmp 2, .tmp 3, .tmp 4]⟩
theorem xa_ : av_ Tryz.prog Tryz.f87 wi_ := am_
theorem kz_ (l : List UInt8) (hp : 0 < l.length) (hl : l.length ≤ 1048576) (h : List Row) : aa_ Tryz.prog 87 [.val (.string (txt l))] h (i0_ (cG_ l)) := by
 refine ap_ mixed Tryz.func87 xa_ rfl rfl ?_ h
 rw [su_ l hp]
 simp (disch := omega) only [wi_, c87, go_sem, reduceCtorEq, Int.reduceLE, ↓reduceIte]
 by_cases q1 : l[0] = 1
 ·have q1' : ((l[0].toNat : Int) = 1) = True := by simp [q1]
  have q12 : ((l[0].toNat : Int) = 2) = False := by simp [q1]
  have q2n : ¬ l[0] = 2 := by rw [q1]; decide
  by_cases q9 : 9 ≤ l.length
  ·have q9' : (9 : Int) ≤ l.length := by omega
   have e9 : List.drop 1 (List.take 9 l) = (l.drop 1).take 8 := by rw [drop_take]
   have e10 : List.drop 9 l = (l.drop 1).drop 8 := by rw [drop_drop]
   have hN := it_ (l.drop 1)
   rw [if_pos ⟨q1, q9⟩]
   simp (disch := omega) only [q1', q9', e9, ar_, go_sem, reduceEqDiff, reduceLeDiff, reduceCtorEq, Int.reduceLE, Int.reduceToNat, ↓reduceIte]
   refine aa_.call (k9_ _ (by simp; omega) _) ?_
   simp (disch := omega) only [go_sem, ↓reduceIte]
   refine aa_.call (f1_ _ _ _ _) ?_
   rw [oh_ _ hN]
   by_cases qr : 1 ≤ bK_ 0 ((l.drop 1).take 8) ∧ bK_ 0 ((l.drop 1).take 8) ≤ 1999999999999999999
   ·rw [if_pos qr]
    have qr' : decide (1 ≤ bK_ 0 ((l.drop 1).take 8) ∧ bK_ 0 ((l.drop 1).take 8) ≤ 1999999999999999999) = true := by simpa using qr
    simp (disch := omega) only [qr', aq_, take_length, e10, ar_, go_sem, reduceEqDiff, reduceCtorEq, Int.reduceLE, Int.reduceToNat, ↓reduceIte]
    refine aa_.q (g3_ _ (by omega) (by omega) _) ?_
    exact ⟨2, rfl⟩
   ·rw [if_neg qr]
    have qr' : decide (1 ≤ bK_ 0 ((l.drop 1).take 8) ∧ bK_ 0 ((l.drop 1).take 8) ≤ 1999999999999999999) = false := by simpa using qr
    simp (disch := omega) only [qr', ar_, go_sem, reduceEqDiff, reduceCtorEq, Int.reduceLE, Int.reduceToNat, ↓reduceIte]
    exact ⟨2, rfl⟩
  ·have q9' : ¬ (9 : Int) ≤ l.length := by omega
   rw [if_neg (fun z => q9 z.2), if_neg q2n]
   simp (disch := omega) only [q1', q9', q12, ar_, go_sem, reduceEqDiff, reduceLeDiff, reduceCtorEq, Int.reduceLE, Int.reduceToNat, ↓reduceIte]
   exact ⟨2, rfl⟩
 ·have q1' : ((l[0].toNat : Int) = 1) = False := by rw [eq_iff_iff, iff_false]; intro e; exact q1 (UInt8.toNat_inj.1 (by have h2 : (1 : UInt8).toNat = 1 := rfl; omega))
  rw [if_neg (fun z => q1 z.1)]
  by_cases q2 : l[0] = 2
  case neg =>
   have q2' : ((l[0].toNat : Int) = 2) = False := by rw [eq_iff_iff, iff_false]; intro e; exact q2 (UInt8.toNat_inj.1 (by have h2 : (2 : UInt8).toNat = 2 := rfl; omega))
   rw [if_neg q2]
   simp (disch := omega) only [q1', q2', ar_, go_sem, reduceEqDiff, reduceLeDiff, reduceCtorEq, Int.reduceLE, Int.reduceToNat, ↓reduceIte]
   exact ⟨2, rfl⟩
  have q2' : ((l[0].toNat : Int) = 2) = True := by simp [q2]
  rw [if_pos q2]
  simp (disch := omega) only [q1', q2', ar_, go_sem, reduceEqDiff, reduceLeDiff, reduceCtorEq, Int.reduceLE, Int.reduceToNat, ↓reduceIte]
  refine aB_ (fun n t h => ∃ (i : Nat) (acc : List UInt8) (rest : List Row), t 0 = .val (.string (txt l)) ∧ t 6 = .own 0 acc.length ∧ t 7 = .val (.int .i64 i) ∧ h = ⟨5, 1, a7_ acc⟩ :: rest ∧ n = l.length + 1 - i ∧ i ≤ l.length ∧ acc.length ≤ i ∧ bO_ (l.drop 1) [] = bO_ (l.drop i) acc) l.length ?_ ?_
  ·exact ⟨1, [], [], rfl, rfl, rfl, rfl, by omega, by omega, by simp, rfl⟩
  rintro J hJ n t h ⟨i, acc, rest, t0, t6, t7, rfl, rfl, hi, hac, hS⟩
  have fl := eF_ acc
  by_cases hlt : i + 1 < l.length
  ·have hlt' : (i : Int) + 1 < l.length := by omega
   have hlt0 : i < l.length := by omega
   have ei : (i : Int) + 1 = ((i + 1 : Nat) : Int) := by omega
   have ei2 : (i : Int) + 2 = ((i + 2 : Nat) : Int) := by omega
   rw [ky_ l acc i hlt] at hS
   by_cases r0 : l[i] = 0
   ·rw [if_pos r0] at hS
    have r0' : ((l[i].toNat : Int) = 0) = True := by simp [r0]
    by_cases r1 : l[i + 1] = 0
    ·rw [if_pos r1] at hS
     have r1' : ((l[i + 1].toNat : Int) = 0) = True := by simp [r1]
     simp (disch := omega) only [t0, t6, t7, ei, ei2, hlt, r0', r1', aq_, fl, gl_, take_length, Option.map_some, go_sem, reduceEqDiff, reduceCtorEq, ↓reduceIte]
     rw [hS]
     exact ⟨2, rfl⟩
    ·rw [if_neg r1] at hS
     have r1' : ((l[i + 1].toNat : Int) = 0) = False := by rw [eq_iff_iff, iff_false]; intro e; exact r1 (UInt8.toNat_inj.1 (by have h2 : (0 : UInt8).toNat = 0 := rfl; omega))
     by_cases r2 : l[i + 1] = 255
     ·rw [if_pos r2] at hS
      have r2' : ((l[i + 1].toNat : Int) = 255) = True := by simp [r2]
      simp (disch := omega) only [t0, t6, t7, ei, hlt, r0', r1', r2', aq_, fl, go_sem, reduceEqDiff, reduceLeDiff, reduceCtorEq, ↓reduceIte]
      refine ⟨by omega, by omega, ?_⟩
      try simp (disch := omega) only [t0, t6, t7, ei, ei2, hlt, hlt0, r0', r1', r2', aq_, fl, go_sem, reduceEqDiff, Nat.reduceAdd, reduceLeDiff, reduceCtorEq, Int.reduceLT, Int.reduceLE, Int.reduceNeg, Int.reduceSub, Int.reduceAdd, Int.reduceToNat, ↓reduceIte]
      exact ⟨l.length + 1 - (i + 2), by omega, hJ _ _ _ ⟨i + 2, acc ++ [0], rest ++ [⟨5, 1, a7_ [0]⟩], by simp [upd, t0], by simp [upd], by simp [upd]; try omega, by simp [a7_], rfl, by omega, by simp; omega, hS⟩⟩
     ·rw [if_neg r2] at hS
      have r2' : ((l[i + 1].toNat : Int) = 255) = False := by rw [eq_iff_iff, iff_false]; intro e; exact r2 (UInt8.toNat_inj.1 (by have h2 : (255 : UInt8).toNat = 255 := rfl; omega))
      simp (disch := omega) only [t0, t7, ei, hlt, r0', r1', r2', aq_, go_sem, reduceEqDiff, reduceCtorEq, ↓reduceIte]
      rw [hS]
      exact ⟨2, rfl⟩
   ·rw [if_neg r0] at hS
    have r0' : ((l[i].toNat : Int) = 0) = False := by rw [eq_iff_iff, iff_false]; intro e; exact r0 (UInt8.toNat_inj.1 (by have h2 : (0 : UInt8).toNat = 0 := rfl; omega))
    simp (disch := omega) only [t0, t6, t7, ei, hlt, r0', aq_, fl, go_sem, reduceEqDiff, reduceLeDiff, reduceCtorEq, ↓reduceIte]
    refine ⟨by omega, by omega, ?_⟩
    try simp (disch := omega) only [t0, t6, t7, ei, ei2, hlt, hlt0, r0', aq_, fl, go_sem, reduceEqDiff, Nat.reduceAdd, reduceLeDiff, reduceCtorEq, Int.reduceLT, Int.reduceLE, Int.reduceNeg, Int.reduceSub, Int.reduceAdd, Int.reduceToNat, ↓reduceIte]
    exact ⟨l.length + 1 - (i + 1), by omega, hJ _ _ _ ⟨i + 1, acc ++ [l[i]], rest ++ [⟨5, 1, a7_ [l[i]]⟩], by simp [upd, t0], by simp [upd], by simp [upd]; try omega, by simp [a7_], rfl, by omega, by simp; omega, hS⟩⟩
  ·have hlt' : ¬ (i : Int) + 1 < l.length := by omega
   simp (disch := omega) only [t0, t7, hlt', aq_, go_sem, reduceEqDiff, reduceCtorEq, ↓reduceIte]
   rw [hS, l7_ l acc i (by omega)]
   exact ⟨2, rfl⟩
theorem uv_ (l : List UInt8) (i : Nat) (h : i < l.length) : esc (l.drop i) = if l[i] = 0 then 0 :: 255 :: esc (l.drop (i + 1)) else l[i] :: esc (l.drop (i + 1)) := by
 rw [drop_eq_getElem_cons h, esc]
theorem s5_ (n k : Nat) (h : k < 8) : IntKind.u8.wrap ((n : Int).fdiv (2 ^ min (8 * (7 - (k : Int))).toNat 64)) = ((cE_ n (7 - k)).toNat : Int) := by
 have e : (8 * (7 - (k : Int))).toNat = (8 * ((7 - k : Nat) : Int)).toNat := by omega
 rw [e, m9_ _ _ (by omega), kW_]
theorem lf_ (l : List UInt8) (b : UInt8) : a7_ l ++ [[AV.val (.int .u8 b.toNat)]] = a7_ (l ++ [b]) := by simp [a7_]
def v8_ : LC :=
 .q [.o [.s 2 (.mov (.const (.string ⟨#[]⟩)))], .o [.s 7 (.buildSlice 5 1 (.int .u8 0) 0 []), .m 3 7], .q [.o [.m 8 0, .c1 9 143 8], .k 9 (.q [.o [.m 10 0, .c1 11 144 10, .bk 12 .add false 11 1000000000000000000, .m 4
 12], .o [.m 13 3, .s 14 (.buildSlice 5 1 (.int .u8 0) 1 [(0, .const (.int .u8 1))]), .ap 15 5 1 1 13 14, .m 3 15], .q [.o [.ki 5 7], .block 0 (.loop (.q [.q [.o [.m 16 5, .bk 17 .geq false 16 0], .k 17 .skip (.exit 0)],
 .block 1 (.o [.m 20 3, .m 21 4, .m 22 5, .s 23 (.bin .mul false (.const (.int .i64 8)) (.tmp 22)), .bb 24 .shr false 21 23, .s 25 (.convInt .u8 (.tmp 24)), .s 26 (.buildSlice 5 1 (.int .u8 0) 1 [(0, .tmp 25)]), .ap 27 5
 1 1 20 26, .m 3 27]), .o [.m 18 5, .bk 19 .sub false 18 1, .m 5 19]]))], .o [.m 28 3, .s 29 (.toStr (.tmp 28)), .m 2 29], .ret]) .skip], .o [.m 30 3, .s 31 (.buildSlice 5 1 (.int .u8 0) 1 [(0, .const (.int .u8 2))]), .ap
 32 5 1 1 30 31, .m 3 32], .q [.o [.ki 6 0], .block 2 (.loop (.q [.q [.o [.m 33 6, .m 34 0, .s 35 (.lenStr (.tmp 34)), .bb 36 .lss false 33 35], .k 36 .skip (.exit 2)], .block 3 (.q [.o [.m 39 3, .m 40 0, .m 41 6, .s 42
 (.indexStr (.tmp 40) (.tmp 41)), .s 43 (.buildSlice 5 1 (.int .u8 0) 1 [(0, .tmp 42)]), .ap 44 5 1 1 39 43, .m 3 44], .o [.m 45 0, .m 46 6, .s 47 (.indexStr (.tmp 45) (.tmp 46)), .s 48 (.bin .eql false (.tmp 47) (.const
 (.int .u8 0)))], .k 48 (.o [.m 49 3, .s 50 (.buildSlice 5 1 (.int .u8 0) 1 [(0, .const (.int .u8 255))]), .ap 51 5 1 1 49 50, .m 3 51]) .skip]), .o [.m 37 6, .bk 38 .add false 37 1, .m 6 38]]))], .o [.m 52 3, .s 53
 (.buildSlice 5 1 (.int .u8 0) 2 [(0, .const (.int .u8 0)), (1, .const (.int .u8 0))]), .ap 54 5 1 1 52 53, .s 55 (.toStr (.tmp 54)), .m 2 55], .ret]
def s9_ : LF := ⟨1, 56, v8_, [.tmp 2]⟩
theorem vI_ : av_ Tryz.prog Tryz.f123 s9_ := am_
theorem lD_ (l : List UInt8) (hl : l.length ≤ 1048576) (h : List Row) : aa_ Tryz.prog 123 [.val (.string (txt l))] h (.val (.string (txt (bT_ l)))) := by
 refine ap_ mixed Tryz.func123 vI_ rfl rfl ?_ h
 simp (disch := omega) only [s9_, v8_, go_sem, reduceCtorEq, ↓reduceIte]
 refine aa_.call (j5_ l (by omega) _) ?_
 by_cases q : db_ l = true
 ·simp (disch := omega) only [q, go_sem, reduceCtorEq, ↓reduceIte]
  refine aa_.call (in_ l (by omega) _) ?_
  have hn := dM_ l
  have hq := gN_ l
  have hq2 := g9_ l
  have hkey : bT_ l = 1 :: be8 (cy_ l) := by unfold bT_; rw [if_pos q]
  simp (disch := omega) only [aq_, ← hq, go_sem, reduceEqDiff, reduceLeDiff, ↓reduceIte]
  refine ⟨by omega, ?_⟩
  try simp (disch := omega) only [aq_, ← hq, go_sem, reduceEqDiff, Nat.reduceAdd, reduceLeDiff, reduceCtorEq, Int.reduceLT, Int.reduceLE, Int.reduceNeg, Int.reduceSub, Int.reduceAdd, Int.reduceToNat, ↓reduceIte]
  refine aB_ (fun n t h => ∃ (k : Nat) (rest : List Row), t 3 = .own 0 (1 + k) ∧ t 4 = .val (.int .i64 (cy_ l)) ∧ t 5 = .val (.int .i64 (7 - k)) ∧ h = ⟨5, 1, a7_ (1 :: (be8 (cy_ l)).take k)⟩ :: rest ∧ n = 8 - k ∧ k ≤ 8) 8 ?_ ?_
  ·exact ⟨0, _, rfl, rfl, rfl, rfl, rfl, by omega⟩
  rintro J hJ n t h ⟨k, rest, t3, t4, t5, rfl, rfl, hk⟩
  have fl : (a7_ (1 :: (be8 (cy_ l)).take k)).length = 1 + k := by
   rw [eF_, lc_, length_take, dc_]; omega
  by_cases hlt : k < 8
  ·have hg : (0 : Int) ≤ 7 - k := by omega
   simp (disch := omega) only [t3, t4, t5, hg, fl, k0_, lp_, aq_, s5_, go_sem, reduceEqDiff, reduceLeDiff, ↓reduceIte]
   refine ⟨by omega, by omega, ?_⟩
   try simp (disch := omega) only [t3, t4, t5, hg, fl, k0_, lp_, aq_, s5_, go_sem, reduceEqDiff, Nat.reduceAdd, reduceLeDiff, reduceCtorEq, Int.reduceLT, Int.reduceLE, Int.reduceNeg, Int.reduceSub, Int.reduceAdd, Int.reduceToNat, ↓reduceIte]
   refine ⟨8 - (k + 1), by omega, hJ _ _ _ ⟨k + 1, rest ++ [⟨5, 1, a7_ [cE_ (cy_ l) (7 - k)]⟩], by simp [upd]; try omega, by simp [upd, t4], by simp [upd]; try omega, ?_, rfl, by omega⟩⟩
   rw [lf_, cons_append, ← mP_ _ _ hlt]
   rfl
  ·have hg : ¬ (0 : Int) ≤ 7 - k := by omega
   simp (disch := omega) only [t3, t5, hg, fl, gl_, Option.map_some, go_sem, reduceEqDiff, ↓reduceIte]
   rw [oW_ _ _ (by omega), ← hkey]
   exact ⟨1, rfl⟩
 ·have q' : db_ l = false := by simpa using q
  have hkey : bT_ l = 2 :: (esc l ++ [0, 0]) := by unfold bT_; rw [if_neg q]
  simp (disch := omega) only [q', go_sem, reduceEqDiff, reduceLeDiff, ↓reduceIte]
  refine ⟨by omega, ?_⟩
  try simp (disch := omega) only [go_sem, reduceEqDiff, Nat.reduceAdd, reduceLeDiff, reduceCtorEq, Int.reduceLT, Int.reduceLE, Int.reduceNeg, Int.reduceSub, Int.reduceAdd, Int.reduceToNat, ↓reduceIte]
  refine aB_ (fun n t h => ∃ (i : Nat) (out : List UInt8) (rest : List Row), t 0 = .val (.string (txt l)) ∧ t 3 = .own 0 out.length ∧ t 6 = .val (.int .i64 i) ∧ h = ⟨5, 1, a7_ out⟩ :: rest ∧ n = l.length - i ∧ i ≤ l.length ∧ out.length ≤ 1 + 2 * i ∧ 2 :: esc l = out ++ esc (l.drop i)) l.length ?_ ?_
  ·exact ⟨0, [2], _, rfl, rfl, rfl, rfl, rfl, by omega, by simp, rfl⟩
  rintro J hJ n t h ⟨i, out, rest, t0, t3, t6, rfl, rfl, hi, hol, hS⟩
  have fl := eF_ out
  by_cases hlt : i < l.length
  ·have hltI : (i : Int) < l.length := by omega
   rw [uv_ l i hlt] at hS
   by_cases r0 : l[i] = 0
   ·rw [if_pos r0] at hS
    have r0' : ((l[i].toNat : Int) = 0) = True := by simp [r0]
    simp (disch := omega) only [t0, t3, t6, hltI, r0', fl, aq_, go_sem, reduceEqDiff, reduceLeDiff, reduceCtorEq, ↓reduceIte]
    refine ⟨by omega, by omega, ?_⟩
    refine ⟨by omega, by omega, ?_⟩
    refine ⟨l.length - (i + 1), by omega, hJ _ _ _ ⟨i + 1, out ++ [0, 255], rest ++ [⟨5, 1, a7_ [l[i]]⟩, ⟨5, 1, a7_ [255]⟩], by simp [upd, t0], by simp [upd], by simp [upd]; try omega, by simp [a7_, r0], rfl, by omega, by simp; omega, by rw [hS]; simp⟩⟩
   ·rw [if_neg r0] at hS
    have r0' : ((l[i].toNat : Int) = 0) = False := by rw [eq_iff_iff, iff_false]; intro e; exact r0 (UInt8.toNat_inj.1 (by have h2 : (0 : UInt8).toNat = 0 := rfl; omega))
    simp (disch := omega) only [t0, t3, t6, hltI, r0', fl, aq_, go_sem, reduceEqDiff, reduceLeDiff, reduceCtorEq, ↓reduceIte]
    refine ⟨by omega, by omega, ?_⟩
    try simp (disch := omega) only [t0, t3, t6, hltI, hlt, r0', fl, aq_, go_sem, reduceEqDiff, Nat.reduceAdd, reduceLeDiff, reduceCtorEq, Int.reduceLT, Int.reduceLE, Int.reduceNeg, Int.reduceSub, Int.reduceAdd, Int.reduceToNat, ↓reduceIte]
    exact ⟨l.length - (i + 1), by omega, hJ _ _ _ ⟨i + 1, out ++ [l[i]], rest ++ [⟨5, 1, a7_ [l[i]]⟩], by simp [upd, t0], by simp [upd], by simp [upd]; try omega, by simp [a7_], rfl, by omega, by simp; omega, by rw [hS]; simp⟩⟩
  ·have hltI : ¬ (i : Int) < l.length := by omega
   rw [drop_eq_nil_of_le (by omega), esc, append_nil] at hS
   simp (disch := omega) only [t0, t3, t6, hltI, fl, go_sem, reduceEqDiff, Nat.reduceAdd, reduceLeDiff, reduceCtorEq, ↓reduceIte]
   refine ⟨by omega, by omega, ?_⟩
   have e2 : a7_ out ++ [[AV.val (.int .u8 0)], [AV.val (.int .u8 0)]] = a7_ (out ++ [0, 0]) := by simp [a7_]
   simp (disch := omega) only [e2, gl_, Option.map_some, go_sem]
   rw [hkey, ← hS]
   exact ⟨1, rfl⟩
def c89 : LC :=
 .q [.o [.s 2 (.mov (.const (.string ⟨#[]⟩)))], .o [.s 3 (.mov (.const (.string ⟨#[]⟩)))], .q [.o [.ki 4 0], .block 0 (.loop (.q [.q [.o [.m 5 4, .m 6 0, .ll 7 6, .bb 8 .lss false 5 7], .k 8 .skip (.exit 0)], .block 1 (.o
 [.m 11 3, .m 12 0, .m 13 4, .ia 14 1 12 13, .ln 15 14, .c1 16 123 15, .bb 17 .add false 11 16, .m 3 17]), .o [.m 9 4, .bk 10 .add false 9 1, .m 4 10]]))], .o [.m 18 3, .m 2 18], .ret]
def vq_ : LF := ⟨1, 19, c89, [.tmp 2]⟩
theorem xS_ : av_ Tryz.prog Tryz.f89 vq_ := am_
theorem ld_ (xs : List ByteArray) (hx : ba_ xs = true) (h : List Row) : aa_ Tryz.prog 89 [.list 0 1 (xs.map aF_)] h (.val (.string (txt (b7_ (bss xs))))) := by
 refine ap_ mixed Tryz.func89 xS_ rfl rfl ?_ h
 obtain ⟨h4, hm⟩ := h9_ hx
 simp (disch := omega) only [vq_, c89, go_sem]
 refine aB_ (fun n t h => ∃ k : Nat, t 0 = .list 0 1 (xs.map aF_) ∧ t 3 = .val (.string (txt (b7_ (bss (xs.take k))))) ∧ t 4 = .val (.int .i64 k) ∧ h = [] ∧ n = xs.length - k ∧ k ≤ xs.length) xs.length ⟨0, rfl, rfl, rfl, rfl, rfl, Nat.zero_le _⟩ ?_
 rintro J hJ n t h ⟨k, t0, t3, t4, rfl, rfl, hk⟩
 by_cases hlt : k < xs.length
 ·have hltI : (k : Int) < xs.length := by omega
  have hl1 := jN_ (xs.take k) (fun x hx' => (hm x (mem_of_mem_take hx')).2)
  have hl2 : (xs.take k).length ≤ 4 := by rw [length_take]; omega
  have hl3 := ix_ (bs xs[k])
  have hl4 := hm _ (getElem_mem hlt)
  have hl5 : (bs xs[k]).length = xs[k].size := fh_ _
  have hc := fun h => lD_ (bs xs[k]) (by omega) h
  rw [fV_] at hc
  have hadd : (b7_ (bss (xs.take k))).length + (bT_ (bs xs[k])).length ≤ 9223372036854775807 := by omega
  simp (disch := omega) only [t0, t3, t4, hltI, go_sem, reduceEqDiff, reduceCtorEq, ↓reduceIte]
  refine aa_.call (hc _) ?_
  simp (disch := omega) only [t4, h7_ _ _ _ hadd, aq_, go_sem, reduceEqDiff, ↓reduceIte]
  refine ⟨xs.length - (k + 1), by omega, hJ _ _ _ ⟨k + 1, by simp [upd, t0], ?_, by simp [upd], rfl, rfl, by omega⟩⟩
  rw [take_succ_eq_append_getElem hlt, bss, bss, map_append, m8_]
  simp [upd, b7_]
 ·have hltI : ¬ (k : Int) < xs.length := by omega
  simp (disch := omega) only [t0, t3, t4, hltI, go_sem, reduceEqDiff, reduceCtorEq, ↓reduceIte]
  rw [take_of_length_le (by omega)]
  exact ⟨1, rfl⟩
theorem q2_ {s : ByteArray} (h : cb_ cG_ 5 (bs s) [] = none) : cZ_ s = ([], false) := by
 rw [cZ_, iQ_, eP_, h]
theorem ll_ {s : ByteArray} {out : List (List UInt8)} {left : List UInt8} (h : cb_ cG_ 5 (bs s) [] = some (out, left)) (q : ¬ (left = [] ∧ dL_ out = true ∧ b7_ out = bs s)) : cZ_ s = ([], false) := by
 rw [cZ_, iQ_, eP_, h]; simp only; rw [if_neg q]
theorem sI_ {s : ByteArray} {out : List (List UInt8)} (h : cb_ cG_ 5 (bs s) [] = some (out, [])) (h2 : dL_ out = true) (h3 : b7_ out = bs s) : cZ_ s = (out.map txt, true) := by
 rw [cZ_, iQ_]; simp [eP_, h, h2, h3]
def c67 : LC :=
 .q [.o [.nl 2, .f 3], .o [.s 9 (.buildSlice 9 1 (.string ⟨#[]⟩) 0 []), .m 4 9], .o [.m 10 0, .m 5 10], .block 0 (.loop (.q [.q [.o [.m 11 5, .s 12 (.bin .neq false (.tmp 11) (.const (.string ⟨#[]⟩))), .m 13 12, .gm 14 13
 true 4, .g 15 13 true (.lenSl (.tmp 14)), .g 16 13 true (.bin .leq false (.tmp 15) (.const (.int .i64 4))), .pf 17 13 16], .k 17 .skip (.exit 0)], .block 1 (.q [.o [.m 19 5, .c1 20 87 19, .m 18 20, .ex 21 18 0, .ex 22 18
 1, .ex 23 18 2, .m 6 21, .m 7 22, .m 8 23], .q [.o [.m 24 8, .nt 25 24], .k 25 (.q [.o [.s 26 (.buildSlice 9 1 (.string ⟨#[]⟩) 0 []), .m 2 26, .f 3], .ret]) .skip], .o [.m 27 4, .m 28 6, .s 29 (.buildSlice 9 1 (.string
 ⟨#[]⟩) 1 [(0, .tmp 28)]), .ap 30 9 1 16 27 29, .m 4 30], .o [.m 31 7, .m 5 31]])])), .q [.o [.m 32 5, .s 33 (.bin .neq false (.tmp 32) (.const (.string ⟨#[]⟩))), .m 34 33, .gm 35 34 false 4, .gc 36 34 false 88 35, .gu 37
 34 false 36, .pt 38 34 37, .m 39 38, .gm 40 39 false 4, .gc 41 39 false 89 40, .gm 42 39 false 0, .g 43 39 false (.bin .neq false (.tmp 41) (.tmp 42)), .pt 44 39 43], .k 44 (.q [.o [.s 45 (.buildSlice 9 1 (.string ⟨#[]⟩)
 0 []), .m 2 45, .f 3], .ret]) .skip], .o [.m 46 4, .m 2 46, .t 3], .ret]
def u9_ : LF := ⟨1, 47, c67, [.tmp 2, .tmp 3]⟩
theorem wD_ : av_ Tryz.prog Tryz.f67 u9_ := am_
theorem iJ_ (s : ByteArray) (hs : s.size ≤ 1048576) : bh_ Tryz.prog 67 [.val (.string s)] (mG_ (cZ_ s)) (fun a => ∃ b q, a = .tup [b, .val (.bool q)]) := by
 refine dP_ mixed Tryz.func67 wD_ rfl (fun h0 => ?_)
 have hbl := fh_ s
 simp (disch := omega) only [u9_, c67, go_sem, reduceCtorEq, ↓reduceIte]
 refine aB_ (fun n t h => ∃ (out : List (List UInt8)) (left : List UInt8) (rest : List Row), t 0 = .val (.string s) ∧ t 4 = .own h0.length out.length ∧ t 5 = .val (.string (txt left)) ∧ h = h0 ++ ⟨9, 1, dk_ out⟩ :: rest ∧ n = 5 - out.length ∧ out.length ≤ 5 ∧ left.length ≤ s.size ∧ cb_ cG_ 5 (bs s) [] = cb_ cG_ (5 - out.length) left out) 5 ?_ ?_
 ·exact ⟨[], bs s, [], rfl, rfl, by rw [fV_]; rfl, rfl, rfl, by simp, Nat.le_of_eq (fh_ s), rfl⟩
 rintro J hJ n t h ⟨out, left, rest, t0, t4, t5, rfl, rfl, ho, hle, hS⟩
 have fl : (dk_ out).length = out.length := by simp
 have hA := nS_ h0 out rest
 by_cases q0 : left = []
 ·subst q0
  have hR : cb_ cG_ 5 (bs s) [] = some (out, []) := by
   rw [hS]; cases 5 - out.length with
   | zero => rw [cb_]
   | succ f => rw [cb_, if_pos rfl]
  have q0' : (txt ([] : List UInt8) = txt []) = True := by simp
  simp (disch := omega) only [t4, t5, ar_, go_sem, reduceEqDiff, ↓reduceIte]
  refine aa_.call (AW.frozen (fn_ (out.map txt) (by simp; omega)) hA) ?_
  by_cases s1 : dL_ out = true
  case neg =>
   have s1' : ba_ (out.map txt) = false := by rw [di_]; simpa using s1
   simp (disch := omega) only [t4, s1', ar_, go_sem, reduceEqDiff, ↓reduceIte]
   rw [ll_ hR (fun q => s1 q.2.1)]
   exact ⟨_, rfl, cj_ (c8_ (out := []) (E := 9) (by first | (rw [fe_]; rfl) | (rw [fe_]; simp)) (by omega)) (by omega) _, _, _, rfl⟩
  have s1' : ba_ (out.map txt) = true := by rw [di_]; exact s1
  simp (disch := omega) only [t4, s1', go_sem, reduceEqDiff, ↓reduceIte]
  refine aa_.call (AW.frozen (ld_ (out.map txt) s1') hA) ?_
  rw [nn_]
  by_cases s2 : b7_ out = bs s
  case neg =>
   have s2' : (txt (b7_ out) = s) = False := by rw [eq_iff_iff, iff_false]; intro e; exact s2 (by rw [← e]; exact (bA_ _).symm)
   simp (disch := omega) only [t0, t4, s2', ar_, go_sem, reduceEqDiff, reduceCtorEq, ↓reduceIte]
   rw [ll_ hR (fun q => s2 q.2.2)]
   exact ⟨_, rfl, cj_ (c8_ (out := []) (E := 9) (by first | (rw [fe_]; rfl) | (rw [fe_]; simp)) (by omega)) (by omega) _, _, _, rfl⟩
  have s2' : (txt (b7_ out) = s) = True := by rw [s2, fV_]; simp
  simp (disch := omega) only [t0, t4, s2', ar_, go_sem, reduceEqDiff, reduceCtorEq, ↓reduceIte]
  rw [sI_ hR s1 s2]
  have hz := cj_ (c8_ (base := h0.length) (l := h0.length) (E := 9) (out := out.map txt) (H := h0 ++ ⟨9, 1, dk_ out⟩ :: rest) (by rw [gb_]; rfl) (Nat.le_refl _)) (by omega) (.bool true)
  rw [List.length_map] at hz
  exact ⟨_, rfl, hz, _, _, rfl⟩
 ·have hpos : 0 < left.length := by cases left with
   | nil => exact absurd rfl q0
   | cons b l => simp
  have q0' : (txt left = txt []) = False := by rw [jB_]; simp [q0]
  by_cases q4 : out.length ≤ 4
  ·have q4' : (out.length : Int) ≤ 4 := by omega
   have e5 : 5 - out.length = (4 - out.length) + 1 := by omega
   rw [e5, lY_ cG_ (4 - out.length) left out q0] at hS
   simp (disch := omega) only [t4, t5, q0', q4', fl, ar_, go_sem, reduceEqDiff, ↓reduceIte]
   have hc := fun h => kz_ left hpos (by omega) h
   cases hn : cG_ left with
   | none =>
    rw [hn, hq_] at hc
    rw [hn] at hS
    refine aa_.call (hc _) ?_
    simp (disch := omega) only [t4, fl, ar_, go_sem, reduceEqDiff, reduceLeDiff, ↓reduceIte]
    rw [q2_ (by rw [hS])]
    exact ⟨_, rfl, cj_ (c8_ (out := []) (E := 9) (by first | (rw [fe_]; rfl) | (rw [fe_]; simp)) (by omega)) (by omega) _, _, _, rfl⟩
   | some p =>
    obtain ⟨x, r⟩ := p
    rw [hn, hu_] at hc
    have hlen := rb_ left x r hn
    rw [hn] at hS
    refine aa_.call (hc _) ?_
    simp (disch := omega) only [t4, fl, ar_, go_sem, reduceEqDiff, reduceLeDiff, ↓reduceIte]
    refine ⟨by omega, by omega, ?_⟩
    try simp (disch := omega) only [t0, t4, t5, q0', q4', fl, ar_, go_sem, reduceEqDiff, Nat.reduceAdd, reduceLeDiff, reduceCtorEq, Int.reduceLT, Int.reduceLE, Int.reduceNeg, Int.reduceSub, Int.reduceAdd, Int.reduceToNat, ↓reduceIte]
    exact ⟨5 - (out.length + 1), by omega, hJ _ _ _ ⟨out ++ [x], r, rest ++ [⟨9, 1, [[.val (.string (txt x))]]⟩], by simp [upd, t0], by simp [upd], by simp [upd], by simp [aF_], by simp, by simp; omega, by omega, by simpa [Nat.sub_sub] using hS⟩⟩
  ·have q4' : ¬ (out.length : Int) ≤ 4 := by omega
   have e0 : 5 - out.length = 0 := by omega
   have hR : cb_ cG_ 5 (bs s) [] = some (out, left) := by rw [hS, e0, cb_]
   simp (disch := omega) only [t4, t5, q0', q4', fl, ar_, go_sem, reduceEqDiff, ↓reduceIte]
   rw [ll_ hR (fun q => q0 q.1)]
   exact ⟨_, rfl, cj_ (c8_ (out := []) (E := 9) (by first | (rw [fe_]; rfl) | (rw [fe_]; simp)) (by omega)) (by omega) _, _, _, rfl⟩
theorem g7_ (s : ByteArray) (hs : s.size ≤ 1048576) (h : List Row) : aa_ Tryz.prog 67 [.val (.string s)] h (mG_ (cZ_ s)) := (iJ_ s hs).pure rfl h
def dv_ (n : Int) : Bool := decide (n = 0) || decide (n = 1) || decide (n = 10) || decide (n = 11)
def c94 : LC :=
 .q [.o [.f 2], .o [.m 3 0, .bk 4 .eql false 3 0, .m 5 4, .gm 6 5 false 0, .g 7 5 false (.bin .eql false (.tmp 6) (.const (.int .i64 1))), .pt 8 5 7, .m 9 8, .gm 10 9 false 0, .g 11 9 false (.bin .eql false (.tmp 10)
 (.const (.int .i64 10))), .pt 12 9 11, .m 13 12, .gm 14 13 false 0, .g 15 13 false (.bin .eql false (.tmp 14) (.const (.int .i64 11))), .pt 16 13 15, .m 2 16], .ret]
def wp_ : LF := ⟨1, 17, c94, [.tmp 2]⟩
theorem xc_ : av_ prog Tryz.f94 wp_ := am_
theorem d0_ (n : Int)  (h : List Row) : aa_ prog 94 [.val (.int .i64 n)] h (.val (.bool (dv_ n))) := by
 refine ap_ mixed Tryz.func94 xc_ rfl rfl ?_ h
 simp (disch := omega) only [wp_, c94, go_sem, reduceCtorEq, ↓reduceIte]
 repeat' (first
  | exact ae_ _ _
  | (refine ac_ ?_; simp [dv_, *]; done)
  | simp (disch := omega) only [go_sem, reduceEqDiff, reduceCtorEq, ↓reduceIte]
  | ((first | (apply aM_; assumption) | (apply aN_; assumption) | (apply a6_; assumption) | (apply a5_; assumption)); intro hb; try simp only [hb])
  | ((first | (apply ay_; assumption) | (apply ax_; assumption) | (apply aG_; assumption) | (apply aH_; assumption)); intro hb; try simp only [hb])
  | ((first | apply at_ | apply aw_ | apply ai_ | apply ak_) <;> intro hb <;> (try simp only [hb]) <;> (first | have hp := aO_ hb | have hp := aQ_ hb | have hp := aR_ hb | have hp := aP_ hb | skip)))
def c65 : LC :=
 .q [.o [.f 2], .o [.m 3 0, .bk 4 .eql false 3 0, .m 5 4, .gm 6 5 false 0, .g 7 5 false (.bin .eql false (.tmp 6) (.const (.int .i64 1))), .pt 8 5 7, .m 9 8, .gm 10 9 false 0, .g 11 9 false (.bin .eql false (.tmp 10)
 (.const (.int .i64 10))), .pt 12 9 11, .m 13 12, .gm 14 13 false 0, .g 15 13 false (.bin .eql false (.tmp 14) (.const (.int .i64 11))), .pt 16 13 15, .m 2 16], .ret]
def vD_ : LF := ⟨1, 17, c65, [.tmp 2]⟩
theorem xk_ : av_ prog Tryz.f65 vD_ := am_
theorem dY_ (n : Int)  (h : List Row) : aa_ prog 65 [.val (.int .i64 n)] h (.val (.bool (dv_ n))) := by
 refine ap_ mixed Tryz.func65 xk_ rfl rfl ?_ h
 simp (disch := omega) only [vD_, c65, go_sem, reduceCtorEq, ↓reduceIte]
 repeat' (first
  | exact ae_ _ _
  | (refine ac_ ?_; simp [dv_, *]; done)
  | simp (disch := omega) only [go_sem, reduceEqDiff, reduceCtorEq, ↓reduceIte]
  | ((first | (apply aM_; assumption) | (apply aN_; assumption) | (apply a6_; assumption) | (apply a5_; assumption)); intro hb; try simp only [hb])
  | ((first | (apply ay_; assumption) | (apply ax_; assumption) | (apply aG_; assumption) | (apply aH_; assumption)); intro hb; try simp only [hb])
  | ((first | apply at_ | apply aw_ | apply ai_ | apply ak_) <;> intro hb <;> (try simp only [hb]) <;> (first | have hp := aO_ hb | have hp := aQ_ hb | have hp := aR_ hb | have hp := aP_ hb | skip)))
def eG_ (s : ByteArray) : Bool := decide (64 < (s.size : Int))
def vm_ : LC :=
 .q [.o [.f 2], .o [.m 3 0, .s 4 (.lenStr (.tmp 3)), .bk 5 .gtr false 4 64, .m 2 5], .ret]
def td_ : LF := ⟨1, 6, vm_, [.tmp 2]⟩
theorem uW_ : av_ prog Tryz.f126 td_ := am_
theorem gZ_ (s : ByteArray)  (h : List Row) : aa_ prog 126 [.val (.string s)] h (.val (.bool (eG_ s))) := by
 refine ap_ mixed Tryz.func126 uW_ rfl rfl ?_ h
 simp (disch := omega) only [td_, vm_, go_sem, reduceCtorEq, ↓reduceIte]
 repeat' (first
  | exact ae_ _ _
  | (refine ac_ ?_; first | rfl | (simp only [eG_, *, Bool.and_true, Bool.true_and, Bool.and_false, Bool.false_and, Bool.or_true, Bool.true_or, Bool.or_false, Bool.false_or, Bool.not_true, Bool.not_false, decide_true, decide_false, Bool.and_self, Bool.or_self]; done) | (simp [eG_, *]; done))
  | simp (disch := omega) only [go_sem, reduceEqDiff, Nat.reduceAdd, reduceLeDiff, reduceCtorEq, Int.reduceLT, Int.reduceLE, Int.reduceNeg, Int.reduceSub, Int.reduceAdd, Int.reduceToNat, ↓reduceIte]
  | ((first | (apply ay_; assumption) | (apply ax_; assumption) | (apply aG_; assumption) | (apply aH_; assumption)); intro hb; try simp only [hb])
  | ((first | apply ai_ | apply ak_) <;> intro hb <;> (try simp only [hb]) <;> (first | have hp := aO_ hb | have hp := aQ_ hb | have hp := aR_ hb | have hp := aP_ hb | skip)))
def c95 : LC :=
 .q [.o [.f 2], .o [.m 3 0, .s 4 (.call 98 [.tmp 3, .func 126]), .m 2 4], .ret]
def wd_ : LF := ⟨1, 5, c95, [.tmp 2]⟩
theorem xO_ : av_ prog Tryz.f95 wd_ := am_
theorem nm_ (xs : List ByteArray) (hx : xs.length ≤ 1048576) (h : List Row) : aa_ prog 95 [.list 0 1 (xs.map aF_)] h (.val (.bool (xs.any eG_))) := by
 refine ap_ mixed Tryz.func95 xO_ rfl rfl ?_ h
 simp (disch := omega) only [wd_, c95, go_sem, reduceCtorEq, ↓reduceIte]
 repeat' (first
  | exact ae_ _ _
  | simp (disch := omega) only [go_sem, ↓reduceIte]
  | (refine aa_.call (bN_ _ eG_ 126 hx (by kernel_rfl) (fun x _ h => gZ_ x h) _) ?_)
  | (refine aa_.q (bN_ _ eG_ 126 hx (by kernel_rfl) (fun x _ h => gZ_ x h) _) ?_)
  | ((first | (apply ay_; assumption) | (apply ax_; assumption) | (apply aG_; assumption) | (apply aH_; assumption)); intro hb; try simp only [hb])
  | ((first | apply ai_ | apply ak_) <;> intro hb <;> (try simp only [hb]) <;> (first | have hp := aO_ hb | have hp := aQ_ hb | have hp := aR_ hb | have hp := aP_ hb | skip)))
theorem fD_ (s : ByteArray) {H : List Row} (hl : H[1]? = some ⟨9, 1, [[.val (.string s)]]⟩) : aa_ prog 95 [.own 1 1] H (.val (.bool (eG_ s))) := by
 have : aa_ prog 95 [.own 1 1] H (.val (.bool ([s].any eG_))) := AW.frozen (n := 2) (nm_ [s] (by simp)) (h1_ (gr_ (n := 0) hl rfl (by simp [AV.flat])))
 simpa using this
def bb_ (e : ad_) : Bool :=
 if e.Kind = 1 then dv_ e.N && !eG_ e.Value && (decide (e.N.tmod 10 = 1) || decide (e.Value = txt []))
 else if e.Kind = 4 then dv_ e.N && decide (e.Value = txt [])
 else if e.Kind = 5 then (decide (e.N = 1) || decide (e.N = -1)) && (decide (e.Value = txt []) || by_ e.Value)
 else if e.Kind = 6 then decide (e.N = 1) && (cZ_ e.Value).2 || decide (e.N = 0) && decide (e.Value = txt [])
 else if e.Kind = 2 then decide (e.N = 0) && !eG_ e.Value
 else decide (e.Kind = 3) && decide (e.N = 0) && decide (e.Value = txt [])
def c74 : LC :=
 .q [.o [.bx 1 47 0, .f 2], .q [.o [.fa 5 0 1, .ln 6 5], .block 0 (.q [.o [.bk 8 .eql false 6 1, .m 7 8], .k 7 (.q [.o [.fa 9 4 1, .ln 10 9, .c1 11 94 10, .m 12 11, .gf 13 12 true 3 1, .gn 14 12 true 13, .g 15 12 true
 (.buildSlice 9 1 (.string ⟨#[]⟩) 1 [(0, .tmp 14)]), .gc 16 12 true 95 15, .gu 17 12 true 16, .pf 18 12 17, .m 19 18, .gf 20 19 true 4 1, .gn 21 19 true 20, .g 22 19 true (.bin .rem false (.tmp 21) (.const (.int .i64
 10))), .g 23 19 true (.bin .eql false (.tmp 22) (.const (.int .i64 1))), .gm 24 19 true 23, .gf 25 24 false 3 1, .gn 26 24 false 25, .g 27 24 false (.bin .eql false (.tmp 26) (.const (.string ⟨#[]⟩))), .g 28 19 true
 (.pick (.tmp 24) (.const (.bool true)) (.tmp 27)), .pf 29 19 28, .m 2 29], .ret]) (.q [.o [.bk 31 .eql false 6 4, .m 30 31], .k 30 (.q [.o [.fa 32 4 1, .ln 33 32, .c1 34 94 33, .m 35 34, .gf 36 35 true 3 1, .gn 37 35
 true 36, .g 38 35 true (.bin .eql false (.tmp 37) (.const (.string ⟨#[]⟩))), .pf 39 35 38, .m 2 39], .ret]) (.q [.o [.bk 41 .eql false 6 5, .m 40 41], .k 40 (.q [.o [.fa 42 4 1, .ln 43 42, .bk 44 .eql false 43 1, .m 45
 44, .gf 46 45 false 4 1, .gn 47 45 false 46, .g 48 45 false (.bin .eql false (.tmp 47) (.const (.int .i64 (-1)))), .pt 49 45 48, .m 50 49, .gf 51 50 true 3 1, .gn 52 50 true 51, .g 53 50 true (.bin .eql false (.tmp 52)
 (.const (.string ⟨#[]⟩))), .gm 54 50 true 53, .gf 55 54 false 3 1, .gn 56 54 false 55, .gc 57 54 false 96 56, .g 58 50 true (.pick (.tmp 54) (.const (.bool true)) (.tmp 57)), .pf 59 50 58, .m 2 59], .ret]) (.q [.o [.bk
 61 .eql false 6 6, .m 60 61], .k 60 (.q [.o [.fa 63 3 1, .ln 64 63, .c1 65 97 64, .m 62 65, .ex 66 62 0, .ex 67 62 1, .m 3 66, .m 4 67], .o [.fa 68 4 1, .ln 69 68, .bk 70 .eql false 69 1, .m 71 70, .gm 72 71 true 4, .pf
 73 71 72, .m 74 73, .gf 75 74 false 4 1, .gn 76 74 false 75, .g 77 74 false (.bin .eql false (.tmp 76) (.const (.int .i64 0))), .gm 78 74 false 77, .gf 79 78 true 3 1, .gn 80 78 true 79, .g 81 78 true (.bin .eql false
 (.tmp 80) (.const (.string ⟨#[]⟩))), .g 82 74 false (.pick (.tmp 78) (.tmp 81) (.const (.bool false))), .pt 83 74 82, .m 2 83], .ret]) (.q [.o [.bk 85 .eql false 6 2, .m 84 85], .k 84 (.q [.o [.fa 86 4 1, .ln 87 86, .bk
 88 .eql false 87 0, .m 89 88, .gf 90 89 true 3 1, .gn 91 89 true 90, .g 92 89 true (.buildSlice 9 1 (.string ⟨#[]⟩) 1 [(0, .tmp 91)]), .gc 93 89 true 95 92, .gu 94 89 true 93, .pf 95 89 94, .m 2 95], .ret])
 .skip])])])])])], .o [.fa 96 0 1, .ln 97 96, .bk 98 .eql false 97 3, .m 99 98, .gf 100 99 true 4 1, .gn 101 99 true 100, .g 102 99 true (.bin .eql false (.tmp 101) (.const (.int .i64 0))), .pf 103 99 102, .m 104 103, .gf
 105 104 true 3 1, .gn 106 104 true 105, .g 107 104 true (.bin .eql false (.tmp 106) (.const (.string ⟨#[]⟩))), .pf 108 104 107, .m 2 108], .ret]
def uP_ : LF := ⟨1, 109, c74, [.tmp 2]⟩
theorem wK_ : av_ prog Tryz.f74 uP_ := am_
theorem eV_ (x : ad_) (hx : ad_.sz x ≤ 1048576) (h : List Row) : aa_ prog 74 [.agg (ad_.cells x)] h (.val (.bool (bb_ x))) := by
 refine ap_ mixed Tryz.func74 wK_ rfl rfl ?_ h
 have hv := ad_.sz_Value hx
 simp (disch := omega) only [uP_, c74, ad_.cells, go_sem, reduceEqDiff, Nat.reduceAdd, Int.reduceNeg, ↓reduceIte]
 by_cases k1 : x.Kind = 1
 ·simp (disch := omega) only [k1, go_sem, reduceEqDiff, Int.reduceNeg, ↓reduceIte]
  repeat' (first
   | exact ae_ _ _
   | (refine ac_ ?_; simp [bb_, *]; done)
   | simp (disch := omega) only [go_sem, reduceEqDiff, ↓reduceIte]
   | (refine aa_.call (d0_ _ _) ?_)
   | (refine aa_.q (d0_ _ _) ?_)
   | (refine aa_.call (fD_ x.Value rfl) ?_)
   | (refine aa_.q (fD_ x.Value rfl) ?_)
   | ((first | (apply aM_; assumption) | (apply aN_; assumption) | (apply a6_; assumption) | (apply a5_; assumption)); intro hb; try simp only [hb])
   | ((first | (apply ay_; assumption) | (apply ax_; assumption) | (apply aG_; assumption) | (apply aH_; assumption)); intro hb; try simp only [hb])
   | ((first | apply at_ | apply aw_ | apply ai_ | apply ak_) <;> intro hb <;> (try simp only [hb]) <;> (first | have hp := aO_ hb | have hp := aQ_ hb | have hp := aR_ hb | have hp := aP_ hb | skip)))
 by_cases k4 : x.Kind = 4
 ·simp (disch := omega) only [k4, Int.reduceEq, go_sem, reduceEqDiff, Int.reduceNeg, ↓reduceIte]
  repeat' (first
   | exact ae_ _ _
   | (refine ac_ ?_; simp [bb_, *]; done)
   | simp (disch := omega) only [go_sem, reduceEqDiff, ↓reduceIte]
   | (refine aa_.call (d0_ _ _) ?_)
   | (refine aa_.q (d0_ _ _) ?_)
   | (refine aa_.call (fD_ x.Value rfl) ?_)
   | (refine aa_.q (fD_ x.Value rfl) ?_)
   | ((first | (apply aM_; assumption) | (apply aN_; assumption) | (apply a6_; assumption) | (apply a5_; assumption)); intro hb; try simp only [hb])
   | ((first | (apply ay_; assumption) | (apply ax_; assumption) | (apply aG_; assumption) | (apply aH_; assumption)); intro hb; try simp only [hb])
   | ((first | apply at_ | apply aw_ | apply ai_ | apply ak_) <;> intro hb <;> (try simp only [hb]) <;> (first | have hp := aO_ hb | have hp := aQ_ hb | have hp := aR_ hb | have hp := aP_ hb | skip)))
 by_cases k5 : x.Kind = 5
 ·simp (disch := omega) only [k5, Int.reduceEq, go_sem, reduceEqDiff, Int.reduceNeg, ↓reduceIte]
  repeat' (first
   | exact ae_ _ _
   | (refine ac_ ?_; simp [bb_, *]; done)
   | simp (disch := omega) only [go_sem, reduceEqDiff, Int.reduceNeg, ↓reduceIte]
   | (refine aa_.call (eD_ _ _) ?_)
   | (refine aa_.q (eD_ _ _) ?_)
   | ((first | (apply aM_; assumption) | (apply aN_; assumption) | (apply a6_; assumption) | (apply a5_; assumption)); intro hb; try simp only [hb])
   | ((first | (apply ay_; assumption) | (apply ax_; assumption) | (apply aG_; assumption) | (apply aH_; assumption)); intro hb; try simp only [hb])
   | ((first | apply at_ | apply aw_ | apply ai_ | apply ak_) <;> intro hb <;> (try simp only [hb]) <;> (first | have hp := aO_ hb | have hp := aQ_ hb | have hp := aR_ hb | have hp := aP_ hb | skip)))
 by_cases k6 : x.Kind = 6
 ·simp (disch := omega) only [k6, Int.reduceEq, go_sem, reduceEqDiff, Int.reduceNeg, ↓reduceIte]
  repeat' (first
   | exact ae_ _ _
   | (refine ac_ ?_; simp [bb_, *]; done)
   | simp (disch := omega) only [go_sem, reduceEqDiff, ↓reduceIte]
   | (refine aa_.call (gM_ _ hv _) ?_)
   | (refine aa_.q (gM_ _ hv _) ?_)
   | ((first | (apply aM_; assumption) | (apply aN_; assumption) | (apply a6_; assumption) | (apply a5_; assumption)); intro hb; try simp only [hb])
   | ((first | (apply ay_; assumption) | (apply ax_; assumption) | (apply aG_; assumption) | (apply aH_; assumption)); intro hb; try simp only [hb])
   | ((first | apply at_ | apply aw_ | apply ai_ | apply ak_) <;> intro hb <;> (try simp only [hb]) <;> (first | have hp := aO_ hb | have hp := aQ_ hb | have hp := aR_ hb | have hp := aP_ hb | skip)))
 by_cases k2 : x.Kind = 2
 ·simp (disch := omega) only [k2, Int.reduceEq, go_sem, reduceEqDiff, Int.reduceNeg, ↓reduceIte]
  repeat' (first
   | exact ae_ _ _
   | (refine ac_ ?_; simp [bb_, *]; done)
   | simp (disch := omega) only [go_sem, reduceEqDiff, ↓reduceIte]
   | (refine aa_.call (fD_ x.Value rfl) ?_)
   | (refine aa_.q (fD_ x.Value rfl) ?_)
   | ((first | (apply aM_; assumption) | (apply aN_; assumption) | (apply a6_; assumption) | (apply a5_; assumption)); intro hb; try simp only [hb])
   | ((first | (apply ay_; assumption) | (apply ax_; assumption) | (apply aG_; assumption) | (apply aH_; assumption)); intro hb; try simp only [hb])
   | ((first | apply at_ | apply aw_ | apply ai_ | apply ak_) <;> intro hb <;> (try simp only [hb]) <;> (first | have hp := aO_ hb | have hp := aQ_ hb | have hp := aR_ hb | have hp := aP_ hb | skip)))
 simp (disch := omega) only [k1, k4, k5, k6, k2, go_sem, reduceEqDiff, Int.reduceNeg, ↓reduceIte]
 repeat' (first
  | exact ae_ _ _
  | (refine ac_ ?_; simp [bb_, *]; done)
  | simp (disch := omega) only [go_sem, reduceEqDiff, ↓reduceIte]
  | ((first | (apply aM_; assumption) | (apply aN_; assumption) | (apply a6_; assumption) | (apply a5_; assumption)); intro hb; try simp only [hb])
  | ((first | (apply ay_; assumption) | (apply ax_; assumption) | (apply aG_; assumption) | (apply aH_; assumption)); intro hb; try simp only [hb])
  | ((first | apply at_ | apply aw_ | apply ai_ | apply ak_) <;> intro hb <;> (try simp only [hb]) <;> (first | have hp := aO_ hb | have hp := aQ_ hb | have hp := aR_ hb | have hp := aP_ hb | skip)))
def dI_ (xs : List ByteArray) : ByteArray := xs.getLastD (txt [])
theorem i1_ (xs : List ByteArray) (h : xs.length - 1 < xs.length) : xs[xs.length - 1] = dI_ xs := by
 have hne : xs ≠ [] := by intro e; subst e; simp at h
 rw [← getLast_eq_getElem hne, dI_, getLastD_eq_getLast?, getLast?_eq_some_getLast hne]; rfl
def bu_ (xs : List ByteArray) : List ByteArray := xs.take (xs.length - 1)
def fX_ (xs : List ByteArray) : Bool := decide (0 < (xs.length : Int)) && (ba_ xs || (decide (dI_ xs = txt []) && ba_ (bu_ xs)))
def c75 : LC :=
 .q [.o [.f 2], .o [.m 4 0, .ll 5 4, .m 3 5], .o [.m 6 3, .bk 7 .gtr false 6 0, .m 8 7, .gm 9 8 true 0, .gc 10 8 true 76 9, .gm 11 8 true 10, .gm 12 11 false 0, .gm 13 11 false 3, .g 14 11 false (.bin .sub false (.tmp 13)
 (.const (.int .i64 1))), .g 15 11 false (.indexAddr 1 (.tmp 12) (.tmp 14)), .gn 16 11 false 15, .g 17 11 false (.bin .eql false (.tmp 16) (.const (.string ⟨#[]⟩))), .gm 18 11 false 17, .gm 19 18 true 0, .gm 20 18 true 3,
 .g 21 18 true (.bin .sub false (.tmp 20) (.const (.int .i64 1))), .g 22 18 true (.sliceSl 1 (.tmp 19) none (some (.tmp 21))), .gc 23 18 true 76 22, .g 24 11 false (.pick (.tmp 18) (.tmp 23) (.const (.bool false))), .g 25
 8 true (.pick (.tmp 11) (.const (.bool true)) (.tmp 24)), .pf 26 8 25, .m 2 26], .ret]
def sm_ : LF := ⟨1, 27, c75, [.tmp 2]⟩
theorem wR_ : av_ prog Tryz.f75 sm_ := am_
theorem ga_ (xs : List ByteArray) (hx : xs.length ≤ 1048576) (h : List Row) : aa_ prog 75 [.list 0 1 (xs.map aF_)] h (.val (.bool (fX_ xs))) := by
 refine ap_ mixed Tryz.func75 wR_ rfl rfl ?_ h
 by_cases h0 : xs.length = 0
 ·have h0' : ((0 : Int) < xs.length) = False := eq_false (by omega)
  simp (disch := omega) only [sm_, c75, h0', go_sem, reduceEqDiff, reduceCtorEq, ↓reduceIte]
  exact ac_ (by simp [fX_, h0])
 ·have h0' : ((0 : Int) < xs.length) = True := eq_true (by omega)
  have hsub : ((xs.length : Int) - 1) = ((xs.length - 1 : Nat) : Int) := by omega
  have hlt : xs.length - 1 < xs.length := by omega
  have hfr : xs.take (xs.length - 1) = bu_ xs := rfl
  have hfl : (bu_ xs).length ≤ 1048576 := by rw [bu_, length_take]; omega
  have hw : IntKind.i64.wrap ((xs.length : Int) - 1) = ((xs.length - 1 : Nat) : Int) := by rw [aq_ (n := (xs.length : Int) - 1) (by omega) (by omega)]; omega
  simp (disch := omega) only [sm_, c75, h0', go_sem, reduceEqDiff, reduceCtorEq, ↓reduceIte]
  repeat' (first
   | exact ae_ _ _
   | (refine ac_ ?_; simp only [fX_, *, Bool.true_and, Bool.and_false, Bool.false_and, Bool.true_or, Bool.false_or, decide_true, Bool.and_self, Bool.or_self]; done)
   | simp (disch := omega) only [hw, fQ_, hfr, i1_, aF_, go_sem, reduceEqDiff, reduceCtorEq, ↓reduceIte]
   | (refine aa_.call (bV_ _ hx _) ?_)
   | (refine aa_.q (bV_ _ hx _) ?_)
   | (refine aa_.call (bV_ _ hfl _) ?_)
   | (refine aa_.q (bV_ _ hfl _) ?_)
   | ((first | (apply aM_; assumption) | (apply aN_; assumption) | (apply a6_; assumption) | (apply a5_; assumption)); intro hb; try simp only [hb])
   | ((first | (apply ay_; assumption) | (apply ax_; assumption) | (apply aG_; assumption) | (apply aH_; assumption)); intro hb; try simp only [hb])
   | ((first | apply at_ | apply aw_ | apply ai_ | apply ak_) <;> intro hb <;> (try simp only [hb]) <;> (first | have hp := aO_ hb | have hp := aQ_ hb | have hp := aR_ hb | have hp := aP_ hb | skip)))
def bx_ (x : ad_) : Bool := bQ_ x.Name && bb_ x && (if x.Kind = 5 then decide ((x.Subs.length : Int) ≤ 4) && fX_ x.Subs else ba_ x.Subs)
def c46 : LC :=
 .q [.o [.bx 1 47 0, .f 2], .q [.o [.fa 3 1 1, .ln 4 3, .c1 5 73 4, .nt 6 5, .m 7 6, .gl 8 7 false 5 1, .gc 9 7 false 74 8, .gu 10 7 false 9, .pt 11 7 10], .k 11 (.q [.o [.f 2], .ret]) .skip], .q [.o [.fa 12 0 1, .ln 13
 12, .bk 14 .eql false 13 5], .k 14 (.q [.o [.fa 15 2 1, .ln 16 15, .ll 17 16, .bk 18 .leq false 17 4, .m 19 18, .gf 20 19 true 2 1, .gn 21 19 true 20, .gc 22 19 true 75 21, .pf 23 19 22, .m 2 23], .ret]) .skip], .o [.fa
 24 2 1, .ln 25 24, .c1 26 76 25, .m 2 26], .ret]
def rS_ : LF := ⟨1, 27, c46, [.tmp 2]⟩
theorem wY_ : av_ prog Tryz.f46 rS_ := am_
theorem ff_ (x : ad_) (hx : ad_.sz x ≤ 1048576) (h : List Row) : aa_ prog 46 [.agg (ad_.cells x)] h (.val (.bool (bx_ x))) := by
 refine ap_ mixed Tryz.func46 wY_ rfl rfl ?_ h
 have h1 := ad_.sz_Name hx
 have h2 := bz_ (ad_.sz_Subs hx)
 by_cases k5 : x.Kind = 5
 ·simp (disch := omega) only [rS_, c46, ad_.cells, k5, go_sem, reduceEqDiff, Nat.reduceAdd, ↓reduceIte]
  have hN : bx_ x = (bQ_ x.Name && bb_ x && (decide ((x.Subs.length : Int) ≤ 4) && fX_ x.Subs)) := by rw [bx_, if_pos k5]
  have hR := fun h => eV_ x hx h
  simp only [ad_.cells, k5] at hR
  repeat' (first
   | exact ae_ _ _
   | (refine ac_ ?_; rw [hN]; simp only [*, Bool.true_and, Bool.and_false, Bool.false_and, decide_true, decide_false, Bool.and_self]; done)
   | simp (disch := omega) only [go_sem, reduceEqDiff, Nat.reduceAdd, ↓reduceIte]
   | (refine aa_.call (er_ _ h1 _) ?_)
   | (refine aa_.q (er_ _ h1 _) ?_)
   | (refine aa_.call (hR _) ?_)
   | (refine aa_.q (hR _) ?_)
   | (refine aa_.call (ga_ _ h2 _) ?_)
   | (refine aa_.q (ga_ _ h2 _) ?_)
   | ((first | (apply aM_; assumption) | (apply aN_; assumption) | (apply a6_; assumption) | (apply a5_; assumption)); intro hb; try simp only [hb])
   | ((first | (apply ay_; assumption) | (apply ax_; assumption) | (apply aG_; assumption) | (apply aH_; assumption)); intro hb; try simp only [hb])
   | ((first | apply at_ | apply aw_ | apply ai_ | apply ak_) <;> intro hb <;> (try simp only [hb]) <;> (first | have hp := aO_ hb | have hp := aQ_ hb | have hp := aR_ hb | have hp := aP_ hb | skip)))
 ·have hN : bx_ x = (bQ_ x.Name && bb_ x && ba_ x.Subs) := by rw [bx_, if_neg k5]
  simp (disch := omega) only [rS_, c46, ad_.cells, go_sem, reduceEqDiff, Nat.reduceAdd, ↓reduceIte]
  repeat' (first
   | exact ae_ _ _
   | (refine ac_ ?_; rw [hN]; simp only [*, Bool.true_and, Bool.and_false, Bool.false_and, Bool.and_self]; done)
   | simp (disch := omega) only [k5, go_sem, reduceEqDiff, Nat.reduceAdd, ↓reduceIte]
   | (refine aa_.call (er_ _ h1 _) ?_)
   | (refine aa_.q (er_ _ h1 _) ?_)
   | (refine aa_.call (eV_ x hx _) ?_)
   | (refine aa_.q (eV_ x hx _) ?_)
   | (refine aa_.call (bV_ _ h2 _) ?_)
   | (refine aa_.q (bV_ _ h2 _) ?_)
   | ((first | (apply aM_; assumption) | (apply aN_; assumption) | (apply a6_; assumption) | (apply a5_; assumption)); intro hb; try simp only [hb])
   | ((first | (apply ay_; assumption) | (apply ax_; assumption) | (apply aG_; assumption) | (apply aH_; assumption)); intro hb; try simp only [hb])
   | ((first | apply at_ | apply aw_ | apply ai_ | apply ak_) <;> intro hb <;> (try simp only [hb]) <;> (first | have hp := aO_ hb | have hp := aQ_ hb | have hp := aR_ hb | have hp := aP_ hb | skip)))
def ce_ (x : ad_) : Bool := decide (x.Kind = 1) || decide (x.Kind = 4) || decide (x.Kind = 5) || decide (x.Kind = 6)
def bY_ (x : ad_) : Bool := decide (x.Kind = 2) || decide (x.Kind = 3)
def c62 : LC :=
 .q [.o [.bx 1 47 0, .f 2], .o [.fa 3 0 1, .ln 4 3, .bk 5 .eql false 4 1, .m 6 5, .gf 7 6 false 0 1, .gn 8 6 false 7, .g 9 6 false (.bin .eql false (.tmp 8) (.const (.int .i64 4))), .pt 10 6 9, .m 11 10, .gf 12 11 false 0
 1, .gn 13 11 false 12, .g 14 11 false (.bin .eql false (.tmp 13) (.const (.int .i64 5))), .pt 15 11 14, .m 16 15, .gf 17 16 false 0 1, .gn 18 16 false 17, .g 19 16 false (.bin .eql false (.tmp 18) (.const (.int .i64
 6))), .pt 20 16 19, .m 2 20], .ret]
def u7_ : LF := ⟨1, 21, c62, [.tmp 2]⟩
theorem xp_ : av_ prog Tryz.f62 u7_ := am_
theorem ka_ (x : ad_)  (h : List Row) : aa_ prog 62 [.agg (ad_.cells x)] h (.val (.bool (ce_ x))) := by
 refine ap_ mixed Tryz.func62 xp_ rfl rfl ?_ h
 simp (disch := omega) only [u7_, c62, ad_.cells, go_sem, reduceEqDiff, Nat.reduceAdd, ↓reduceIte]
 repeat' (first
  | exact ae_ _ _
  | (refine ac_ ?_; simp [ce_, *]; done)
  | simp (disch := omega) only [go_sem, reduceEqDiff, ↓reduceIte]
  | ((first | (apply aM_; assumption) | (apply aN_; assumption) | (apply a6_; assumption) | (apply a5_; assumption)); intro hb; try simp only [hb])
  | ((first | (apply ay_; assumption) | (apply ax_; assumption) | (apply aG_; assumption) | (apply aH_; assumption)); intro hb; try simp only [hb])
  | ((first | apply at_ | apply aw_ | apply ai_ | apply ak_) <;> intro hb <;> (try simp only [hb]) <;> (first | have hp := aO_ hb | have hp := aQ_ hb | have hp := aR_ hb | have hp := aP_ hb | skip)))
def c63 : LC :=
 .q [.o [.bx 1 47 0, .f 2], .o [.fa 3 0 1, .ln 4 3, .bk 5 .eql false 4 2, .m 6 5, .gf 7 6 false 0 1, .gn 8 6 false 7, .g 9 6 false (.bin .eql false (.tmp 8) (.const (.int .i64 3))), .pt 10 6 9, .m 2 10], .ret]
def vp_ : LF := ⟨1, 11, c63, [.tmp 2]⟩
theorem xy_ : av_ prog Tryz.f63 vp_ := am_
theorem dd_ (x : ad_)  (h : List Row) : aa_ prog 63 [.agg (ad_.cells x)] h (.val (.bool (bY_ x))) := by
 refine ap_ mixed Tryz.func63 xy_ rfl rfl ?_ h
 simp (disch := omega) only [vp_, c63, ad_.cells, go_sem, reduceEqDiff, Nat.reduceAdd, ↓reduceIte]
 repeat' (first
  | exact ae_ _ _
  | (refine ac_ ?_; simp [bY_, *]; done)
  | simp (disch := omega) only [go_sem, reduceEqDiff, ↓reduceIte]
  | ((first | (apply aM_; assumption) | (apply aN_; assumption) | (apply a6_; assumption) | (apply a5_; assumption)); intro hb; try simp only [hb])
  | ((first | (apply ay_; assumption) | (apply ax_; assumption) | (apply aG_; assumption) | (apply aH_; assumption)); intro hb; try simp only [hb])
  | ((first | apply at_ | apply aw_ | apply ai_ | apply ak_) <;> intro hb <;> (try simp only [hb]) <;> (first | have hp := aO_ hb | have hp := aQ_ hb | have hp := aR_ hb | have hp := aP_ hb | skip)))
def c77 : LC :=
 .q [.o [.bx 1 47 0, .f 2], .o [.fa 3 0 1, .ln 4 3, .bk 5 .eql false 4 2, .m 6 5, .gf 7 6 false 0 1, .gn 8 6 false 7, .g 9 6 false (.bin .eql false (.tmp 8) (.const (.int .i64 3))), .pt 10 6 9, .m 2 10], .ret]
def vo_ : LF := ⟨1, 11, c77, [.tmp 2]⟩
theorem wV_ : av_ prog Tryz.f77 vo_ := am_
theorem d3_ (x : ad_)  (h : List Row) : aa_ prog 77 [.agg (ad_.cells x)] h (.val (.bool (bY_ x))) := by
 refine ap_ mixed Tryz.func77 wV_ rfl rfl ?_ h
 simp (disch := omega) only [vo_, c77, ad_.cells, go_sem, reduceEqDiff, Nat.reduceAdd, ↓reduceIte]
 repeat' (first
  | exact ae_ _ _
  | (refine ac_ ?_; simp [bY_, *]; done)
  | simp (disch := omega) only [go_sem, reduceEqDiff, ↓reduceIte]
  | ((first | (apply aM_; assumption) | (apply aN_; assumption) | (apply a6_; assumption) | (apply a5_; assumption)); intro hb; try simp only [hb])
  | ((first | (apply ay_; assumption) | (apply ax_; assumption) | (apply aG_; assumption) | (apply aH_; assumption)); intro hb; try simp only [hb])
  | ((first | apply at_ | apply aw_ | apply ai_ | apply ak_) <;> intro hb <;> (try simp only [hb]) <;> (first | have hp := aO_ hb | have hp := aQ_ hb | have hp := aR_ hb | have hp := aP_ hb | skip)))
def bW_ (x : ad_) : Bool := bQ_ x.Name && (if x.Kind = 5 then decide (0 < (x.Subs.length : Int)) && decide ((x.Subs.length : Int) ≤ 4) && ba_ (bu_ x.Subs) && (decide (dI_ x.Subs = txt []) || by_ (dI_ x.Subs)) else ba_ x.Subs)
def c64 : LC :=
 .q [.o [.bx 1 47 0, .f 2], .q [.o [.fa 4 1 1, .ln 5 4, .c1 6 85 5, .nt 7 6], .k 7 (.q [.o [.f 2], .ret]) .skip], .q [.o [.fa 8 0 1, .ln 9 8, .bk 10 .neq false 9 5], .k 10 (.q [.o [.fa 11 2 1, .ln 12 11, .c1 13 68 12, .m
 2 13], .ret]) .skip], .o [.fa 14 2 1, .ln 15 14, .ll 16 15, .m 3 16], .q [.o [.m 17 3, .bk 18 .lss false 17 1, .m 19 18, .gm 20 19 false 3, .g 21 19 false (.bin .gtr false (.tmp 20) (.const (.int .i64 4))), .pt 22 19 21,
 .m 23 22, .gf 24 23 false 2 1, .gn 25 23 false 24, .gm 26 23 false 3, .g 27 23 false (.bin .sub false (.tmp 26) (.const (.int .i64 1))), .g 28 23 false (.sliceSl 1 (.tmp 25) none (some (.tmp 27))), .gc 29 23 false 68 28,
 .gu 30 23 false 29, .pt 31 23 30], .k 31 (.q [.o [.f 2], .ret]) .skip], .o [.fa 32 2 1, .ln 33 32, .m 34 3, .bk 35 .sub false 34 1, .ia 36 1 33 35, .ln 37 36, .s 38 (.bin .eql false (.tmp 37) (.const (.string ⟨#[]⟩))),
 .m 39 38, .gf 40 39 false 2 1, .gn 41 39 false 40, .gm 42 39 false 3, .g 43 39 false (.bin .sub false (.tmp 42) (.const (.int .i64 1))), .g 44 39 false (.indexAddr 1 (.tmp 41) (.tmp 43)), .gn 45 39 false 44, .gc 46 39
 false 66 45, .pt 47 39 46, .m 2 47], .ret]
def nz_ : LF := ⟨1, 48, c64, [.tmp 2]⟩
theorem xb_ : av_ prog Tryz.f64 nz_ := am_
theorem j1_ (x : ad_) (hx : ad_.sz x ≤ 1048576) (h : List Row) : aa_ prog 64 [.agg (ad_.cells x)] h (.val (.bool (bW_ x))) := by
 refine ap_ mixed Tryz.func64 xb_ rfl rfl ?_ h
 have h1 := ad_.sz_Name hx
 have h2 := bz_ (ad_.sz_Subs hx)
 by_cases k5 : x.Kind = 5
 case neg =>
  have hN : bW_ x = (bQ_ x.Name && ba_ x.Subs) := by rw [bW_, if_neg k5]
  simp (disch := omega) only [nz_, c64, ad_.cells, go_sem, reduceEqDiff, Nat.reduceAdd, ↓reduceIte]
  repeat' (first
   | exact ae_ _ _
   | (refine ac_ ?_; rw [hN]; simp only [*, Bool.true_and, Bool.false_and]; done)
   | simp (disch := omega) only [k5, go_sem, reduceEqDiff, ↓reduceIte]
   | (refine aa_.call (b5_ _ h1 _) ?_)
   | (refine aa_.q (b5_ _ h1 _) ?_)
   | (refine aa_.call (cN_ _ h2 _) ?_)
   | (refine aa_.q (cN_ _ h2 _) ?_)
   | ((first | (apply aM_; assumption) | (apply aN_; assumption) | (apply a6_; assumption) | (apply a5_; assumption)); intro hb; try simp only [hb])
   | ((first | (apply ay_; assumption) | (apply ax_; assumption) | (apply aG_; assumption) | (apply aH_; assumption)); intro hb; try simp only [hb])
   | ((first | apply at_ | apply aw_ | apply ai_ | apply ak_) <;> intro hb <;> (try simp only [hb]) <;> (first | have hp := aO_ hb | have hp := aQ_ hb | have hp := aR_ hb | have hp := aP_ hb | skip)))
 have hN : bW_ x = (bQ_ x.Name && (decide (0 < (x.Subs.length : Int)) && decide ((x.Subs.length : Int) ≤ 4) && ba_ (bu_ x.Subs) && (decide (dI_ x.Subs = txt []) || by_ (dI_ x.Subs)))) := by rw [bW_, if_pos k5]
 by_cases h0 : x.Subs.length = 0
 ·have h0' : ((0 : Int) < x.Subs.length) = False := eq_false (by omega)
  have h0'' : ((x.Subs.length : Int) < 1) = True := eq_true (by omega)
  simp (disch := omega) only [nz_, c64, ad_.cells, k5, go_sem, reduceEqDiff, Nat.reduceAdd, ↓reduceIte]
  repeat' (first
   | exact ae_ _ _
   | (refine ac_ ?_; rw [hN]; simp [h0]; done)
   | (refine ac_ ?_; rw [hN]; simp only [*, Bool.and_true, Bool.true_and, Bool.and_false, Bool.false_and, Bool.or_true, Bool.true_or, Bool.or_false, Bool.false_or, Bool.not_true, Bool.not_false, decide_true, decide_false, Bool.and_self, Bool.or_self]; done)
   | simp (disch := omega) only [h0'', go_sem, reduceEqDiff, ↓reduceIte]
   | (refine aa_.call (b5_ _ h1 _) ?_)
   | (refine aa_.q (b5_ _ h1 _) ?_)
   | ((first | (apply aM_; assumption) | (apply aN_; assumption) | (apply a6_; assumption) | (apply a5_; assumption)); intro hb; try simp only [hb])
   | ((first | (apply ay_; assumption) | (apply ax_; assumption) | (apply aG_; assumption) | (apply aH_; assumption)); intro hb; try simp only [hb])
   | ((first | apply at_ | apply aw_ | apply ai_ | apply ak_) <;> intro hb <;> (try simp only [hb]) <;> (first | have hp := aO_ hb | have hp := aQ_ hb | have hp := aR_ hb | have hp := aP_ hb | skip)))
 ·have h0' : ((0 : Int) < x.Subs.length) = True := eq_true (by omega)
  have h0'' : ((x.Subs.length : Int) < 1) = False := eq_false (by omega)
  have hlt : x.Subs.length - 1 < x.Subs.length := by omega
  have hfr : x.Subs.take (x.Subs.length - 1) = bu_ x.Subs := rfl
  have hfl : (bu_ x.Subs).length ≤ 1048576 := by rw [bu_, length_take]; omega
  have hw : IntKind.i64.wrap ((x.Subs.length : Int) - 1) = ((x.Subs.length - 1 : Nat) : Int) := by rw [aq_ (n := (x.Subs.length : Int) - 1) (by omega) (by omega)]; omega
  by_cases q4 : (x.Subs.length : Int) ≤ 4
  ·have q4' : ((4 : Int) < x.Subs.length) = False := eq_false (by omega)
   simp (disch := omega) only [nz_, c64, ad_.cells, k5, go_sem, reduceEqDiff, Nat.reduceAdd, ↓reduceIte]
   repeat' (first
    | exact ae_ _ _
    | (refine ac_ ?_; rw [hN]; simp only [*, Bool.true_and, Bool.and_false, Bool.false_and, Bool.true_or, Bool.false_or, decide_true, Bool.and_self]; done)
    | simp (disch := omega) only [h0'', q4', hw, fQ_, hfr, i1_, aF_, go_sem, reduceEqDiff, ↓reduceIte]
    | (refine aa_.call (b5_ _ h1 _) ?_)
    | (refine aa_.q (b5_ _ h1 _) ?_)
    | (refine aa_.call (cN_ _ hfl _) ?_)
    | (refine aa_.q (cN_ _ hfl _) ?_)
    | (refine aa_.call (eN_ _ _) ?_)
    | (refine aa_.q (eN_ _ _) ?_)
    | ((first | (apply aM_; assumption) | (apply aN_; assumption) | (apply a6_; assumption) | (apply a5_; assumption)); intro hb; try simp only [hb])
    | ((first | (apply ay_; assumption) | (apply ax_; assumption) | (apply aG_; assumption) | (apply aH_; assumption)); intro hb; try simp only [hb])
    | ((first | apply at_ | apply aw_ | apply ai_ | apply ak_) <;> intro hb <;> (try simp only [hb]) <;> (first | have hp := aO_ hb | have hp := aQ_ hb | have hp := aR_ hb | have hp := aP_ hb | skip)))
  ·have q4' : ((4 : Int) < x.Subs.length) = True := eq_true (by omega)
   simp (disch := omega) only [nz_, c64, ad_.cells, k5, go_sem, reduceEqDiff, Nat.reduceAdd, ↓reduceIte]
   repeat' (first
    | exact ae_ _ _
    | (refine ac_ ?_; rw [hN]; simp only [*, Bool.and_false, Bool.false_and, decide_true, decide_false, Bool.and_self]; done)
    | simp (disch := omega) only [h0'', q4', go_sem, reduceEqDiff, ↓reduceIte]
    | (refine aa_.call (b5_ _ h1 _) ?_)
    | (refine aa_.q (b5_ _ h1 _) ?_)
    | ((first | (apply aM_; assumption) | (apply aN_; assumption) | (apply a6_; assumption) | (apply a5_; assumption)); intro hb; try simp only [hb])
    | ((first | (apply ay_; assumption) | (apply ax_; assumption) | (apply aG_; assumption) | (apply aH_; assumption)); intro hb; try simp only [hb])
    | ((first | apply at_ | apply aw_ | apply ai_ | apply ak_) <;> intro hb <;> (try simp only [hb]) <;> (first | have hp := aO_ hb | have hp := aQ_ hb | have hp := aR_ hb | have hp := aP_ hb | skip)))
theorem lJ_ (s : ByteArray) : (!eG_ s) = decide ((s.size : Int) ≤ 64) := by
 rw [eG_, Bool.eq_iff_iff]; simp only [Bool.not_eq_true', decide_eq_false_iff_not, decide_eq_true_eq]; omega
theorem qj_ (xs : List ByteArray) (x : ByteArray) : ba_ (xs ++ [x]) = (decide ((xs.length : Int) + 1 ≤ 4) && (xs.all by_ && by_ x)) := by
 simp [ba_]
theorem p3_ (xs : List ByteArray) (h : 0 < xs.length) : xs = bu_ xs ++ [dI_ xs] := by
 have hlt : xs.length - 1 < xs.length := by omega
 rw [← i1_ xs hlt, bu_]
 conv => lhs; rw [← take_append_drop (xs.length - 1) xs]
 congr 1
 rw [drop_eq_getElem_cons hlt, drop_eq_nil_of_le (by omega)]
theorem pD_ (xs : List ByteArray) : (decide ((xs.length : Int) ≤ 4) && fX_ xs) = (decide (0 < (xs.length : Int)) && decide ((xs.length : Int) ≤ 4) && ba_ (bu_ xs) && (decide (dI_ xs = txt []) || by_ (dI_ xs))) := by
 by_cases h0 : 0 < xs.length
 case neg =>
  have : xs.length = 0 := by omega
  simp [fX_, this]
 have hs : ba_ xs = (decide ((xs.length : Int) ≤ 4) && ((bu_ xs).all by_ && by_ (dI_ xs))) := by
  have e := p3_ xs h0
  have hl : ((bu_ xs).length : Int) + 1 = xs.length := by rw [bu_, length_take]; omega
  conv => lhs; rw [e]
  rw [qj_, hl]
 have hf : ba_ (bu_ xs) = (decide (((bu_ xs).length : Int) ≤ 4) && (bu_ xs).all by_) := rfl
 have hl : ((bu_ xs).length : Int) = xs.length - 1 := by rw [bu_, length_take]; omega
 rw [fX_, hs, hf, hl]
 have h1 : decide (0 < (xs.length : Int)) = true := by simp; omega
 rw [h1]
 by_cases h4 : (xs.length : Int) ≤ 4
 ·have h5 : decide ((xs.length : Int) - 1 ≤ 4) = true := by simp; omega
  have h4' : decide ((xs.length : Int) ≤ 4) = true := by simpa using h4
  rw [h4', h5]
  cases (bu_ xs).all by_ <;> cases by_ (dI_ xs) <;> cases decide (dI_ xs = txt []) <;> rfl
 ·have h4' : decide ((xs.length : Int) ≤ 4) = false := by simpa using h4
  rw [h4']; rfl
theorem oc_ {x : ad_} (k5 : ¬ x.Kind = 5) : bW_ x = (bQ_ x.Name && ba_ x.Subs) := by rw [bW_, if_neg k5]
theorem pn_ {x : ad_} (k5 : ¬ x.Kind = 5) : bx_ x = (bW_ x && bb_ x) := by
 rw [bx_, if_neg k5, oc_ k5]; cases bQ_ x.Name <;> cases bb_ x <;> cases ba_ x.Subs <;> rfl
theorem qh_ {x : ad_} (k5 : x.Kind = 5) : bx_ x = (bW_ x && bb_ x) := by
 rw [bx_, if_pos k5, bW_, if_pos k5, pD_]
 generalize (decide (0 < (x.Subs.length : Int)) && decide ((x.Subs.length : Int) ≤ 4) && ba_ (bu_ x.Subs) && (decide (dI_ x.Subs = txt []) || by_ (dI_ x.Subs))) = q
 cases bQ_ x.Name <;> cases bb_ x <;> cases q <;> rfl
theorem cH_ (x : ad_) : bx_ x = (bW_ x && bb_ x) := by
 by_cases k5 : x.Kind = 5
 ·exact qh_ k5
 ·exact pn_ k5
theorem x3_ {x : ad_} (k : x.Kind = 1) : bb_ x = (decide ((x.Value.size : Int) ≤ 64) && dv_ x.N && (decide (x.N.tmod 10 = 1) || decide (x.Value = txt []))) := by
 rw [bb_, if_pos k, lJ_]; rw [Bool.and_comm (dv_ x.N)]
theorem xX_ {x : ad_} (k : x.Kind = 4) : bb_ x = (dv_ x.N && decide (x.Value = txt [])) := by
 rw [bb_, if_neg (by omega), if_pos k]
theorem x5_ {x : ad_} (k : x.Kind = 5) : bb_ x = ((decide (x.Value = txt []) || by_ x.Value) && (decide (x.N = 1) || decide (x.N = -1))) := by
 rw [bb_, if_neg (by omega), if_neg (by omega), if_pos k, Bool.and_comm]
theorem mb_ (s : ByteArray) : ba_ (cZ_ s).1 = true := by
 rw [cZ_]
 cases h : eP_ cV_ (bs s) with
 | none => rfl
 | some xs => simp only; rw [di_]; exact ((gy_ i2_ (bs s) xs).1 h).1
theorem wg_ {x : ad_} (k : x.Kind = 6) : bb_ x = if x.N = 0 then decide (x.Value = txt []) else decide (x.N = 1) && (cZ_ x.Value).2 := by
 rw [bb_, if_neg (by omega), if_neg (by omega), if_neg (by omega), if_pos k]
 by_cases h : x.N = 0
 ·rw [if_pos h, h]; simp
 ·rw [if_neg h]; simp [h]
theorem xV_ {x : ad_} (k : x.Kind = 2) : bb_ x = (decide ((x.Value.size : Int) ≤ 64) && decide (x.N = 0)) := by
 rw [bb_, if_neg (by omega), if_neg (by omega), if_neg (by omega), if_neg (by omega), if_pos k, lJ_, Bool.and_comm]
theorem x6_ {x : ad_} (k : x.Kind = 3) : bb_ x = (decide (x.Value = txt []) && decide (x.N = 0)) := by
 rw [bb_, if_neg (by omega), if_neg (by omega), if_neg (by omega), if_neg (by omega), if_neg (by omega)]
 simp [k, Bool.and_comm]
theorem xY_ {x : ad_} (k1 : ¬ x.Kind = 1) (k4 : ¬ x.Kind = 4) (k5 : ¬ x.Kind = 5) (k6 : ¬ x.Kind = 6) (k2 : ¬ x.Kind = 2) (k3 : ¬ x.Kind = 3) : bb_ x = false := by
 simp [bb_, *]
theorem rD_ (s : ByteArray) : (cZ_ s).1.length ≤ 1048576 := by
 have := (h9_ (mb_ s)).1; omega
def c40 : LC :=
 .q [.o [.bx 1 47 0, .f 2], .q [.o [.ld 5 5 1, .c1 6 62 5, .nt 7 6, .m 8 7, .gl 9 8 true 5 1, .gc 10 8 true 63 9, .gu 11 8 true 10, .pf 12 8 11, .m 13 12, .gl 14 13 false 5 1, .gc 15 13 false 64 14, .gu 16 13 false 15,
 .pt 17 13 16], .k 17 (.q [.o [.f 2], .ret]) .skip], .q [.o [.fa 18 0 1, .ln 19 18], .block 0 (.q [.o [.bk 21 .eql false 19 1, .m 20 21], .k 20 (.q [.o [.fa 22 3 1, .ln 23 22, .s 24 (.lenStr (.tmp 23)), .bk 25 .leq false
 24 64, .m 26 25, .gf 27 26 true 4 1, .gn 28 26 true 27, .gc 29 26 true 65 28, .pf 30 26 29, .m 31 30, .gf 32 31 true 4 1, .gn 33 31 true 32, .g 34 31 true (.bin .rem false (.tmp 33) (.const (.int .i64 10))), .g 35 31
 true (.bin .eql false (.tmp 34) (.const (.int .i64 1))), .gm 36 31 true 35, .gf 37 36 false 3 1, .gn 38 36 false 37, .g 39 36 false (.bin .eql false (.tmp 38) (.const (.string ⟨#[]⟩))), .g 40 31 true (.pick (.tmp 36)
 (.const (.bool true)) (.tmp 39)), .pf 41 31 40, .m 2 41], .ret]) (.q [.o [.bk 43 .eql false 19 4, .m 42 43], .k 42 (.q [.o [.fa 44 4 1, .ln 45 44, .c1 46 65 45, .m 47 46, .gf 48 47 true 3 1, .gn 49 47 true 48, .g 50 47
 true (.bin .eql false (.tmp 49) (.const (.string ⟨#[]⟩))), .pf 51 47 50, .m 2 51], .ret]) (.q [.o [.bk 53 .eql false 19 5, .m 52 53], .k 52 (.q [.o [.fa 54 3 1, .ln 55 54, .s 56 (.bin .eql false (.tmp 55) (.const
 (.string ⟨#[]⟩))), .m 57 56, .gf 58 57 false 3 1, .gn 59 57 false 58, .gc 60 57 false 66 59, .pt 61 57 60, .m 62 61, .gf 63 62 true 4 1, .gn 64 62 true 63, .g 65 62 true (.bin .eql false (.tmp 64) (.const (.int .i64
 1))), .gm 66 62 true 65, .gf 67 66 false 4 1, .gn 68 66 false 67, .g 69 66 false (.bin .eql false (.tmp 68) (.const (.int .i64 (-1)))), .g 70 62 true (.pick (.tmp 66) (.const (.bool true)) (.tmp 69)), .pf 71 62 70, .m 2
 71], .ret]) (.q [.o [.bk 73 .eql false 19 6, .m 72 73], .k 72 (.q [.q [.o [.fa 74 4 1, .ln 75 74, .bk 76 .eql false 75 0], .k 76 (.q [.o [.fa 77 3 1, .ln 78 77, .s 79 (.bin .eql false (.tmp 78) (.const (.string ⟨#[]⟩))),
 .m 2 79], .ret]) .skip], .o [.fa 81 3 1, .ln 82 81, .c1 83 67 82, .m 80 83, .ex 84 80 0, .ex 85 80 1, .m 3 84, .m 4 85], .o [.fa 86 4 1, .ln 87 86, .bk 88 .eql false 87 1, .m 89 88, .gm 90 89 true 4, .pf 91 89 90, .m 92
 91, .gm 93 92 true 3, .gc 94 92 true 68 93, .pf 95 92 94, .m 2 95], .ret]) (.q [.o [.bk 97 .eql false 19 2, .m 96 97], .k 96 (.q [.o [.fa 98 3 1, .ln 99 98, .s 100 (.lenStr (.tmp 99)), .bk 101 .leq false 100 64, .m 102
 101, .gf 103 102 true 4 1, .gn 104 102 true 103, .g 105 102 true (.bin .eql false (.tmp 104) (.const (.int .i64 0))), .pf 106 102 105, .m 2 106], .ret]) .skip])])])])])], .o [.fa 107 3 1, .ln 108 107, .s 109 (.bin .eql
 false (.tmp 108) (.const (.string ⟨#[]⟩))), .m 110 109, .gf 111 110 true 4 1, .gn 112 110 true 111, .g 113 110 true (.bin .eql false (.tmp 112) (.const (.int .i64 0))), .pf 114 110 113, .m 2 114], .ret]
def if_ : LF := ⟨1, 115, c40, [.tmp 2]⟩
theorem xT_ : av_ Tryz.prog Tryz.f40 if_ := am_
theorem es_ (x : ad_) (hx : ad_.sz x ≤ 1048576) (h : List Row) : aa_ Tryz.prog 40 [.agg (ad_.cells x)] h (.val (.bool (bx_ x))) := by
 refine ap_ mixed Tryz.func40 xT_ rfl rfl ?_ h
 have hv := ad_.sz_Value hx
 have hW := fun h => j1_ x hx h
 have hRd := fun h => ka_ x h
 have hTn := fun h => dd_ x h
 have hq := rD_ x.Value
 have hqs := mb_ x.Value
 by_cases k1 : x.Kind = 1
 ·have r : ce_ x = true := by simp [ce_, k1]
  have hN : bx_ x = (bW_ x && (decide ((x.Value.size : Int) ≤ 64) && dv_ x.N && (decide (x.N.tmod 10 = 1) || decide (x.Value = txt [])))) := by rw [cH_, x3_ k1]
  rw [r] at hRd
  simp only [ad_.cells, k1] at hW hRd hTn
  simp (disch := omega) only [if_, c40, ad_.cells, k1, go_sem, reduceEqDiff, Nat.reduceAdd, Int.reduceNeg, ↓reduceIte]
  repeat' (first
   | exact ae_ _ _
   | (refine ac_ ?_; rw [hN]; simp only [*, Bool.true_and, Bool.and_false, Bool.false_and, Bool.true_or, Bool.false_or, decide_true, decide_false, Bool.and_self]; done)
   | simp (disch := omega) only [go_sem, reduceEqDiff, Nat.reduceAdd, Int.reduceNeg, ↓reduceIte]
   | (refine aa_.call (hRd _) ?_)
   | (refine aa_.q (hRd _) ?_)
   | (refine aa_.call (hTn _) ?_)
   | (refine aa_.q (hTn _) ?_)
   | (refine aa_.call (hW _) ?_)
   | (refine aa_.q (hW _) ?_)
   | (refine aa_.call (dY_ _ _) ?_)
   | (refine aa_.q (dY_ _ _) ?_)
   | ((first | (apply aM_; assumption) | (apply aN_; assumption) | (apply a6_; assumption) | (apply a5_; assumption)); intro hb; try simp only [hb])
   | ((first | (apply ay_; assumption) | (apply ax_; assumption) | (apply aG_; assumption) | (apply aH_; assumption)); intro hb; try simp only [hb])
   | ((first | apply at_ | apply aw_ | apply ai_ | apply ak_) <;> intro hb <;> (try simp only [hb]) <;> (first | have hp := aO_ hb | have hp := aQ_ hb | have hp := aR_ hb | have hp := aP_ hb | skip)))
 by_cases k4 : x.Kind = 4
 ·have r : ce_ x = true := by simp [ce_, k4]
  have hN : bx_ x = (bW_ x && (dv_ x.N && decide (x.Value = txt []))) := by rw [cH_, xX_ k4]
  rw [r] at hRd
  simp only [ad_.cells, k4] at hW hRd hTn
  simp (disch := omega) only [if_, c40, ad_.cells, k4, go_sem, reduceEqDiff, Nat.reduceAdd, Int.reduceNeg, ↓reduceIte]
  repeat' (first
   | exact ae_ _ _
   | (refine ac_ ?_; rw [hN]; simp only [*, Bool.true_and, Bool.and_false, Bool.false_and]; done)
   | simp (disch := omega) only [Int.reduceEq, go_sem, reduceEqDiff, Nat.reduceAdd, Int.reduceNeg, ↓reduceIte]
   | (refine aa_.call (hRd _) ?_)
   | (refine aa_.q (hRd _) ?_)
   | (refine aa_.call (hTn _) ?_)
   | (refine aa_.q (hTn _) ?_)
   | (refine aa_.call (hW _) ?_)
   | (refine aa_.q (hW _) ?_)
   | (refine aa_.call (dY_ _ _) ?_)
   | (refine aa_.q (dY_ _ _) ?_)
   | ((first | (apply aM_; assumption) | (apply aN_; assumption) | (apply a6_; assumption) | (apply a5_; assumption)); intro hb; try simp only [hb])
   | ((first | (apply ay_; assumption) | (apply ax_; assumption) | (apply aG_; assumption) | (apply aH_; assumption)); intro hb; try simp only [hb])
   | ((first | apply at_ | apply aw_ | apply ai_ | apply ak_) <;> intro hb <;> (try simp only [hb]) <;> (first | have hp := aO_ hb | have hp := aQ_ hb | have hp := aR_ hb | have hp := aP_ hb | skip)))
 by_cases k5 : x.Kind = 5
 ·have r : ce_ x = true := by simp [ce_, k5]
  have hN : bx_ x = (bW_ x && ((decide (x.Value = txt []) || by_ x.Value) && (decide (x.N = 1) || decide (x.N = -1)))) := by rw [cH_, x5_ k5]
  rw [r] at hRd
  simp only [ad_.cells, k5] at hW hRd hTn
  simp (disch := omega) only [if_, c40, ad_.cells, k5, go_sem, reduceEqDiff, Nat.reduceAdd, Int.reduceNeg, ↓reduceIte]
  repeat' (first
   | exact ae_ _ _
   | (refine ac_ ?_; rw [hN]; simp only [*, Bool.true_and, Bool.and_false, Bool.false_and, Bool.or_true, Bool.true_or, Bool.false_or, Bool.and_self, Bool.or_self]; done)
   | simp (disch := omega) only [Int.reduceEq, go_sem, reduceEqDiff, Nat.reduceAdd, Int.reduceNeg, ↓reduceIte]
   | (refine aa_.call (hRd _) ?_)
   | (refine aa_.q (hRd _) ?_)
   | (refine aa_.call (hTn _) ?_)
   | (refine aa_.q (hTn _) ?_)
   | (refine aa_.call (hW _) ?_)
   | (refine aa_.q (hW _) ?_)
   | (refine aa_.call (eN_ _ _) ?_)
   | (refine aa_.q (eN_ _ _) ?_)
   | ((first | (apply aM_; assumption) | (apply aN_; assumption) | (apply a6_; assumption) | (apply a5_; assumption)); intro hb; try simp only [hb])
   | ((first | (apply ay_; assumption) | (apply ax_; assumption) | (apply aG_; assumption) | (apply aH_; assumption)); intro hb; try simp only [hb])
   | ((first | apply at_ | apply aw_ | apply ai_ | apply ak_) <;> intro hb <;> (try simp only [hb]) <;> (first | have hp := aO_ hb | have hp := aQ_ hb | have hp := aR_ hb | have hp := aP_ hb | skip)))
 by_cases k6 : x.Kind = 6
 ·have r : ce_ x = true := by simp [ce_, k6]
  rw [r] at hRd
  simp only [ad_.cells, k6] at hW hRd hTn
  by_cases hn0 : x.N = 0
  ·have hN : bx_ x = (bW_ x && decide (x.Value = txt [])) := by rw [cH_, wg_ k6, if_pos hn0]
   simp (disch := omega) only [if_, c40, ad_.cells, k6, go_sem, reduceEqDiff, Nat.reduceAdd, Int.reduceNeg, ↓reduceIte]
   simp only [hn0] at hW hRd hTn
   repeat' (first
    | exact ae_ _ _
    | (refine ac_ ?_; rw [hN]; simp only [*, Bool.true_and, Bool.false_and]; done)
    | simp (disch := omega) only [Int.reduceEq, hn0, go_sem, reduceEqDiff, Nat.reduceAdd, Int.reduceNeg, ↓reduceIte]
    | (refine aa_.call (hRd _) ?_)
    | (refine aa_.q (hRd _) ?_)
    | (refine aa_.call (hTn _) ?_)
    | (refine aa_.q (hTn _) ?_)
    | (refine aa_.call (hW _) ?_)
    | (refine aa_.q (hW _) ?_)
    | ((first | (apply aM_; assumption) | (apply aN_; assumption) | (apply a6_; assumption) | (apply a5_; assumption)); intro hb; try simp only [hb])
    | ((first | (apply ay_; assumption) | (apply ax_; assumption) | (apply aG_; assumption) | (apply aH_; assumption)); intro hb; try simp only [hb])
    | ((first | apply at_ | apply aw_ | apply ai_ | apply ak_) <;> intro hb <;> (try simp only [hb]) <;> (first | have hp := aO_ hb | have hp := aQ_ hb | have hp := aR_ hb | have hp := aP_ hb | skip)))
  ·have hN : bx_ x = (bW_ x && (decide (x.N = 1) && (cZ_ x.Value).2)) := by rw [cH_, wg_ k6, if_neg hn0]
   simp (disch := omega) only [if_, c40, ad_.cells, k6, go_sem, reduceEqDiff, Nat.reduceAdd, Int.reduceNeg, ↓reduceIte]
   repeat' (first
    | exact ae_ _ _
    | (refine ac_ ?_; rw [hN]; simp only [*, Bool.and_false, Bool.false_and, Bool.and_self]; done)
    | simp (disch := omega) only [Int.reduceEq, hn0, go_sem, reduceEqDiff, Nat.reduceAdd, Int.reduceNeg, ↓reduceIte]
    | (refine aa_.call (hRd _) ?_)
    | (refine aa_.q (hRd _) ?_)
    | (refine aa_.call (hTn _) ?_)
    | (refine aa_.q (hTn _) ?_)
    | (refine aa_.call (hW _) ?_)
    | (refine aa_.q (hW _) ?_)
    | (refine aa_.call (g7_ _ hv _) ?_)
    | (refine aa_.q (g7_ _ hv _) ?_)
    | (refine aa_.call (cN_ _ hq _) ?_)
    | (refine aa_.q (cN_ _ hq _) ?_)
    | ((first | (apply aM_; assumption) | (apply aN_; assumption) | (apply a6_; assumption) | (apply a5_; assumption)); intro hb; try simp only [hb])
    | ((first | (apply ay_; assumption) | (apply ax_; assumption) | (apply aG_; assumption) | (apply aH_; assumption)); intro hb; try simp only [hb])
    | ((first | apply at_ | apply aw_ | apply ai_ | apply ak_) <;> intro hb <;> (try simp only [hb]) <;> (first | have hp := aO_ hb | have hp := aQ_ hb | have hp := aR_ hb | have hp := aP_ hb | skip)))
 by_cases k2 : x.Kind = 2
 ·have r : ce_ x = false := by simp [ce_, k2]
  have r2 : bY_ x = true := by simp [bY_, k2]
  have hN : bx_ x = (bW_ x && (decide ((x.Value.size : Int) ≤ 64) && decide (x.N = 0))) := by rw [cH_, xV_ k2]
  rw [r] at hRd
  rw [r2] at hTn
  simp only [ad_.cells, k2] at hW hRd hTn
  simp (disch := omega) only [if_, c40, ad_.cells, k2, go_sem, reduceEqDiff, Nat.reduceAdd, Int.reduceNeg, ↓reduceIte]
  repeat' (first
   | exact ae_ _ _
   | (refine ac_ ?_; rw [hN]; simp only [*, Bool.true_and, Bool.and_false, Bool.false_and, decide_true, decide_false]; done)
   | simp (disch := omega) only [Int.reduceEq, go_sem, reduceEqDiff, Nat.reduceAdd, Int.reduceNeg, ↓reduceIte]
   | (refine aa_.call (hRd _) ?_)
   | (refine aa_.q (hRd _) ?_)
   | (refine aa_.call (hTn _) ?_)
   | (refine aa_.q (hTn _) ?_)
   | (refine aa_.call (hW _) ?_)
   | (refine aa_.q (hW _) ?_)
   | ((first | (apply aM_; assumption) | (apply aN_; assumption) | (apply a6_; assumption) | (apply a5_; assumption)); intro hb; try simp only [hb])
   | ((first | (apply ay_; assumption) | (apply ax_; assumption) | (apply aG_; assumption) | (apply aH_; assumption)); intro hb; try simp only [hb])
   | ((first | apply at_ | apply aw_ | apply ai_ | apply ak_) <;> intro hb <;> (try simp only [hb]) <;> (first | have hp := aO_ hb | have hp := aQ_ hb | have hp := aR_ hb | have hp := aP_ hb | skip)))
 by_cases k3 : x.Kind = 3
 ·have r : ce_ x = false := by simp [ce_, k3]
  have r2 : bY_ x = true := by simp [bY_, k3]
  have hN : bx_ x = (bW_ x && (decide (x.Value = txt []) && decide (x.N = 0))) := by rw [cH_, x6_ k3]
  rw [r] at hRd
  rw [r2] at hTn
  simp only [ad_.cells, k3] at hW hRd hTn
  simp (disch := omega) only [if_, c40, ad_.cells, k3, go_sem, reduceEqDiff, Nat.reduceAdd, Int.reduceNeg, ↓reduceIte]
  repeat' (first
   | exact ae_ _ _
   | (refine ac_ ?_; rw [hN]; simp only [*, Bool.true_and, Bool.and_false, Bool.false_and]; done)
   | simp (disch := omega) only [Int.reduceEq, go_sem, reduceEqDiff, Nat.reduceAdd, Int.reduceNeg, ↓reduceIte]
   | (refine aa_.call (hRd _) ?_)
   | (refine aa_.q (hRd _) ?_)
   | (refine aa_.call (hTn _) ?_)
   | (refine aa_.q (hTn _) ?_)
   | (refine aa_.call (hW _) ?_)
   | (refine aa_.q (hW _) ?_)
   | ((first | (apply aM_; assumption) | (apply aN_; assumption) | (apply a6_; assumption) | (apply a5_; assumption)); intro hb; try simp only [hb])
   | ((first | (apply ay_; assumption) | (apply ax_; assumption) | (apply aG_; assumption) | (apply aH_; assumption)); intro hb; try simp only [hb])
   | ((first | apply at_ | apply aw_ | apply ai_ | apply ak_) <;> intro hb <;> (try simp only [hb]) <;> (first | have hp := aO_ hb | have hp := aQ_ hb | have hp := aR_ hb | have hp := aP_ hb | skip)))
 have r : ce_ x = false := by simp [ce_, *]
 have r2 : bY_ x = false := by simp [bY_, *]
 have hN : bx_ x = false := by rw [cH_, xY_ k1 k4 k5 k6 k2 k3]; simp
 rw [r] at hRd
 rw [r2] at hTn
 simp only [ad_.cells] at hW hRd hTn
 simp (disch := omega) only [if_, c40, ad_.cells, go_sem, reduceEqDiff, Nat.reduceAdd, Int.reduceNeg, ↓reduceIte]
 repeat' (first
  | exact ae_ _ _
  | (refine ac_ ?_; rw [hN]; done)
  | simp (disch := omega) only [go_sem, reduceEqDiff, Nat.reduceAdd, Int.reduceNeg, ↓reduceIte]
  | (refine aa_.call (hRd _) ?_)
  | (refine aa_.q (hRd _) ?_)
  | (refine aa_.call (hTn _) ?_)
  | (refine aa_.q (hTn _) ?_)
  | (refine aa_.call (hW _) ?_)
  | (refine aa_.q (hW _) ?_)
  | ((first | (apply aM_; assumption) | (apply aN_; assumption) | (apply a6_; assumption) | (apply a5_; assumption)); intro hb; try simp only [hb])
  | ((first | (apply ay_; assumption) | (apply ax_; assumption) | (apply aG_; assumption) | (apply aH_; assumption)); intro hb; try simp only [hb])
  | ((first | apply at_ | apply aw_ | apply ai_ | apply ak_) <;> intro hb <;> (try simp only [hb]) <;> (first | have hp := aO_ hb | have hp := aQ_ hb | have hp := aR_ hb | have hp := aP_ hb | skip)))
theorem dD_ (x : ad_) (hx : ad_.sz x ≤ 1048576) (h : List Row) : aa_ Tryz.prog 46 [.agg (ad_.cells x)] h (.val (.bool (bx_ x))) := ff_ x hx h
def c45 : LC :=
 .q [.o [.f 2], .o [.m 3 0, .s 4 (.call 72 [.tmp 3, .const (.int .i64 1), .const (.int .i64 4)]), .m 2 4], .ret]
def vV_ : LF := ⟨1, 5, c45, [.tmp 2]⟩
theorem xG_ : av_ Tryz.prog Tryz.f45 vV_ := am_
theorem iA_ (n : Int)  (h : List Row) : aa_ Tryz.prog 45 [.val (.int .i64 n)] h (.val (.bool (cv_ n 1 4))) := by
 refine ap_ mixed Tryz.func45 xG_ rfl rfl ?_ h
 simp (disch := omega) only [vV_, c45, go_sem, reduceCtorEq, ↓reduceIte]
 repeat' (first
  | exact ae_ _ _
  | simp (disch := omega) only [go_sem, ↓reduceIte]
  | (refine aa_.call (em_ _ _ _ _) ?_)
  | (refine aa_.q (em_ _ _ _ _) ?_)
  | ((first | (apply ay_; assumption) | (apply ax_; assumption) | (apply aG_; assumption) | (apply aH_; assumption)); intro hb; try simp only [hb])
  | ((first | apply ai_ | apply ak_) <;> intro hb <;> (try simp only [hb]) <;> (first | have hp := aO_ hb | have hp := aQ_ hb | have hp := aR_ hb | have hp := aP_ hb | skip)))
def c39 : LC :=
 .q [.o [.f 2], .o [.m 3 0, .s 4 (.call 61 [.tmp 3, .const (.int .i64 1), .const (.int .i64 4)]), .m 2 4], .ret]
def ux_ : LF := ⟨1, 5, c39, [.tmp 2]⟩
theorem wQ_ : av_ Tryz.prog Tryz.f39 ux_ := am_
theorem ep_ (n : Int)  (h : List Row) : aa_ Tryz.prog 39 [.val (.int .i64 n)] h (.val (.bool (cv_ n 1 4))) := by
 refine ap_ mixed Tryz.func39 wQ_ rfl rfl ?_ h
 simp (disch := omega) only [ux_, c39, go_sem, reduceCtorEq, ↓reduceIte]
 repeat' (first
  | exact ae_ _ _
  | simp (disch := omega) only [go_sem, ↓reduceIte]
  | (refine aa_.call (f1_ _ _ _ _) ?_)
  | (refine aa_.q (f1_ _ _ _ _) ?_)
  | ((first | (apply aM_; assumption) | (apply aN_; assumption) | (apply a6_; assumption) | (apply a5_; assumption)); intro hb; try simp only [hb])
  | ((first | (apply ay_; assumption) | (apply ax_; assumption) | (apply aG_; assumption) | (apply aH_; assumption)); intro hb; try simp only [hb])
  | ((first | apply at_ | apply aw_ | apply ai_ | apply ak_) <;> intro hb <;> (try simp only [hb]) <;> (first | have hp := aO_ hb | have hp := aQ_ hb | have hp := aR_ hb | have hp := aP_ hb | skip)))
def cg_ (x : ab_) : Bool := cv_ x.Job 1 4 && bx_ x.Event
def bZ_ (xs : List ab_) : Bool := decide ((xs.length : Int) ≤ 60) && xs.all cg_
def c44 : LC :=
 .q [.o [.bx 1 49 0, .f 2], .o [.fa 3 0 1, .ln 4 3, .c1 5 45 4, .nt 6 5, .m 7 6, .gf 8 7 false 1 1, .gl 9 7 false 5 8, .gc 10 7 false 46 9, .gu 11 7 false 10, .pt 12 7 11, .m 2 12], .ret]
def u1_ : LF := ⟨1, 13, c44, [.tmp 2]⟩
theorem wZ_ : av_ Tryz.prog Tryz.f44 u1_ := am_
theorem fq_ (x : ab_) (hx : ab_.sz x ≤ 1048576) (h : List Row) : aa_ Tryz.prog 44 [.agg (ab_.cells x)] h (.val (.bool (!cg_ x))) := by
 refine ap_ mixed Tryz.func44 wZ_ rfl rfl ?_ h
 simp (disch := omega) only [u1_, c44, ab_.cells, List.nil_append, go_sem, Nat.reduceEqDiff, Nat.reduceAdd, ↓reduceIte]
 repeat' (first
  | exact ae_ _ _
  | (refine ac_ ?_; simp only [cg_, *, Bool.true_and, Bool.false_and, Bool.not_false]; done)
  | simp (disch := omega) only [go_sem, Nat.reduceEqDiff, Nat.reduceAdd, ↓reduceIte]
  | (refine aa_.call (iA_ _ _) ?_)
  | (refine aa_.q (iA_ _ _) ?_)
  | (refine aa_.call (ff_ x.Event (ab_.sz_Event hx) _) ?_)
  | (refine aa_.q (ff_ x.Event (ab_.sz_Event hx) _) ?_)
  | ((first | (apply aM_; assumption) | (apply aN_; assumption) | (apply a6_; assumption) | (apply a5_; assumption)); intro hb; try simp only [hb])
  | ((first | (apply ay_; assumption) | (apply ax_; assumption) | (apply aG_; assumption) | (apply aH_; assumption)); intro hb; try simp only [hb])
  | ((first | apply at_ | apply aw_ | apply ai_ | apply ak_) <;> intro hb <;> (try simp only [hb]) <;> (first | have hp := aO_ hb | have hp := aQ_ hb | have hp := aR_ hb | have hp := aP_ hb | skip)))
def c71 : LC :=
 .q [.o [.ki 4 0], .q [.o [.m 6 0, .ll 7 6, .ki 8 0], .block 0 (.loop (.q [.o [.bb 9 .lss false 8 7], .k 9 .skip (.exit 0), .block 1 (.q [.o [.m 10 8, .m 5 10], .o [.m 11 1, .m 12 0, .m 13 5, .ia 14 6 12 13, .ld 15 6 14,
 .s 16 (.callv (.tmp 11) [.tmp 15])], .k 16 (.q [.o [.m 17 5, .m 4 17], .ret]) .skip]), .o [.bk 18 .add false 8 1, .m 8 18]]))], .o [.s 4 (.mov (.const (.int .i64 (-1))))], .ret]
def uz_ : LF := ⟨2, 19, c71, [.tmp 4]⟩
theorem wx_ : av_ prog Tryz.f71 uz_ := am_
theorem fl_ (xs : List ab_) (p : ab_ → Bool) (g : Nat) (hx : xs.length ≤ 1048576) (hc : b0_ prog g = true) (hp : ∀ x ∈ xs, ∀ h, aa_ prog g [.agg (ab_.cells x)] h (.val (.bool (p x)))) (h : List Row) :
 aa_ prog 71 [.list 0 6 (xs.map ab_.cells), .fn g [] []] h (.val (.int .i64 (bg_ p xs 0))) := by
 refine ap_ mixed Tryz.func71 wx_ rfl rfl ?_ h
 simp (disch := omega) only [uz_, c71, go_sem, reduceCtorEq, Int.reduceNeg, ↓reduceIte]
 refine aB_ (fun n t h => ∃ k : Nat, t 0 = .list 0 6 (xs.map ab_.cells) ∧ t 1 = .fn g [] [] ∧ t 6 = .list 0 6 (xs.map ab_.cells) ∧ t 7 = .val (.int .i64 xs.length) ∧ t 8 = .val (.int .i64 k) ∧ n = xs.length - k ∧ k ≤ xs.length ∧ (bg_ p xs 0 = bg_ p (xs.drop k) k)) (xs.length) ?_ ?_
 ·exact ⟨0, rfl, rfl, rfl, rfl, rfl, rfl, Nat.zero_le _, rfl⟩
 ·rintro J hJ n t h ⟨k, t0, t1, t6, t7, k8, rfl, hk, hS⟩
  by_cases hlt : k < xs.length
  ·skip
   rw [dw_ p xs k hlt] at hS
   simp (disch := omega) only [t0, t1, t7, k8, hlt, hc, ab_.cells, go_sem, reduceEqDiff, Nat.reduceAdd, reduceCtorEq, Int.reduceNeg, ↓reduceIte]
   repeat' (first
    | exact ae_ _ _
    | exact ⟨xs.length - (k + 1), by omega, hJ _ _ _ ⟨k + 1, by simp [upd, t0], by simp [upd, t1], by simp [upd, t6], by simp [upd, t7], by simp [upd], rfl, by omega, by rw [hS]; simp [*]⟩⟩
    | (refine aC_ ?_; rw [hS]; simp [*]; done)
    | (refine aC_ ?_; rw [hS, b8_ _ _ _ (by omega)])
    | simp (disch := omega) only [k8, go_sem, reduceEqDiff, Int.reduceNeg, ↓reduceIte]
    | (refine aa_.call (hp xs[k] (getElem_mem hlt) _) ?_)
    | (refine aa_.q (hp xs[k] (getElem_mem hlt) _) ?_)
    | ((first | (apply ay_; assumption) | (apply ax_; assumption) | (apply aG_; assumption) | (apply aH_; assumption)); intro hb; try simp only [hb])
    | ((first | apply ai_ | apply ak_) <;> intro hb <;> (try simp only [hb]) <;> (first | have hp := aO_ hb | have hp := aQ_ hb | have hp := aR_ hb | have hp := aP_ hb | skip)))
  ·skip
   simp (disch := omega) only [t7, k8, hlt, go_sem, Int.reduceNeg, ↓reduceIte]
   repeat' (first
    | exact ae_ _ _
    | (refine aC_ ?_; rw [hS]; simp [*]; done)
    | (refine aC_ ?_; rw [hS, b8_ _ _ _ (by omega)])
    | simp (disch := omega) only [t0, t1, t6, t7, k8, go_sem, reduceEqDiff, Nat.reduceAdd, reduceLeDiff, reduceCtorEq, Int.reduceLT, Int.reduceLE, Int.reduceNeg, Int.reduceSub, Int.reduceAdd, Int.reduceToNat, ↓reduceIte]
    | (refine aa_.call (hp xs[k] (getElem_mem hlt) _) ?_)
    | (refine aa_.q (hp xs[k] (getElem_mem hlt) _) ?_)
    | ((first | (apply ay_; assumption) | (apply ax_; assumption) | (apply aG_; assumption) | (apply aH_; assumption)); intro hb; try simp only [hb])
    | ((first | apply ai_ | apply ak_) <;> intro hb <;> (try simp only [hb]) <;> (first | have hp := aO_ hb | have hp := aQ_ hb | have hp := aR_ hb | have hp := aP_ hb | skip)))
def c43 : LC :=
 .q [.o [.f 4], .o [.m 5 0, .m 6 1, .c2 7 71 5 6, .bk 8 .geq false 7 0, .m 4 8], .ret]
def wm_ : LF := ⟨2, 9, c43, [.tmp 4]⟩
theorem xi_ : av_ prog Tryz.f43 wm_ := am_
theorem cJ_ (xs : List ab_) (p : ab_ → Bool) (g : Nat) (hx : xs.length ≤ 1048576) (hc : b0_ prog g = true) (hp : ∀ x ∈ xs, ∀ h, aa_ prog g [.agg (ab_.cells x)] h (.val (.bool (p x)))) (h : List Row) :
 aa_ prog 43 [.list 0 6 (xs.map ab_.cells), .fn g [] []] h (.val (.bool (xs.any p))) := by
 refine ap_ mixed Tryz.func43 xi_ rfl rfl ?_ h
 simp (disch := omega) only [wm_, c43, go_sem, reduceEqDiff, reduceCtorEq, ↓reduceIte]
 refine aa_.call (fl_ xs p g hx hc hp _) ?_
 simp (disch := omega) only [go_sem, ↓reduceIte]
 exact ac_ (fG_ p xs)
def c23 : LC :=
 .q [.o [.f 2], .o [.m 3 0, .ll 4 3, .bk 5 .leq false 4 60, .m 6 5, .gm 7 6 true 0, .g 8 6 true (.call 43 [.tmp 7, .func 44]), .gu 9 6 true 8, .pf 10 6 9, .m 2 10], .ret]
def wv_ : LF := ⟨1, 11, c23, [.tmp 2]⟩
theorem wA_ : av_ prog Tryz.f23 wv_ := am_
theorem jU_ (xs : List ab_) (hs : aI_ ab_.sz xs ≤ 1048576) (h : List Row) : aa_ prog 23 [.list 0 6 (xs.map ab_.cells)] h (.val (.bool (bZ_ xs))) := by
 refine ap_ mixed Tryz.func23 wA_ rfl rfl ?_ h
 simp (disch := omega) only [wv_, c23, go_sem, reduceCtorEq, ↓reduceIte]
 repeat' (first
  | exact ae_ _ _
  | (refine ac_ ?_; simp only [oZ_, bZ_, *, Bool.true_and, Bool.false_and, decide_true, decide_false]; done)
  | simp (disch := omega) only [go_sem, reduceEqDiff, reduceCtorEq, ↓reduceIte]
  | (refine aa_.call (cJ_ _ (fun s => !cg_ s) 44 (bz_ hs) (by kernel_rfl) (fun x hx h => fq_ x (by have := c2_ (f := ab_.sz) hx; omega) h) _) ?_)
  | (refine aa_.q (cJ_ _ (fun s => !cg_ s) 44 (bz_ hs) (by kernel_rfl) (fun x hx h => fq_ x (by have := c2_ (f := ab_.sz) hx; omega) h) _) ?_)
  | ((first | (apply aM_; assumption) | (apply aN_; assumption) | (apply a6_; assumption) | (apply a5_; assumption)); intro hb; try simp only [hb])
  | ((first | (apply ay_; assumption) | (apply ax_; assumption) | (apply aG_; assumption) | (apply aH_; assumption)); intro hb; try simp only [hb])
  | ((first | apply at_ | apply aw_ | apply ai_ | apply ak_) <;> intro hb <;> (try simp only [hb]) <;> (first | have hp := aO_ hb | have hp := aQ_ hb | have hp := aR_ hb | have hp := aP_ hb | skip)))
def c20 : LC :=
 .q [.o [.f 2], .q [.o [.m 4 0, .ll 5 4, .bk 6 .gtr false 5 60], .k 6 (.q [.o [.f 2], .ret]) .skip], .q [.o [.ki 3 0], .block 0 (.loop (.q [.q [.o [.m 7 3, .m 8 0, .ll 9 8, .bb 10 .lss false 7 9], .k 10 .skip (.exit 0)],
 .block 1 (.q [.o [.m 13 0, .m 14 3, .ia 15 6 13 14, .fa 16 0 15, .ln 17 16, .c1 18 39 17, .nt 19 18, .m 20 19, .gm 21 20 false 0, .gm 22 20 false 3, .g 23 20 false (.indexAddr 6 (.tmp 21) (.tmp 22)), .gf 24 20 false 1
 23, .gl 25 20 false 5 24, .gc 26 20 false 40 25, .gu 27 20 false 26, .pt 28 20 27], .k 28 (.q [.o [.f 2], .ret]) .skip]), .o [.m 11 3, .bk 12 .add false 11 1, .m 3 12]]))], .o [.t 2], .ret]
def rm_ : LF := ⟨1, 29, c20, [.tmp 2]⟩
theorem xh_ : av_ prog Tryz.f20 rm_ := am_
theorem jM_ (xs : List ab_) (hs : aI_ ab_.sz xs ≤ 1048576) (h : List Row) : aa_ prog 20 [.list 0 6 (xs.map ab_.cells)] h (.val (.bool (bZ_ xs))) := by
 refine ap_ mixed Tryz.func20 xh_ rfl rfl ?_ h
 have hx := bz_ hs
 have hm : ∀ x ∈ xs, ab_.sz x ≤ 1048576 := fun x hx => by have := c2_ (f := ab_.sz) hx; omega
 by_cases h4 : (xs.length : Int) ≤ 60
 ·have h4' : ((60 : Int) < xs.length) = False := eq_false (by omega)
  have hS0 : bZ_ xs = xs.all cg_ := by simp [bZ_, h4]
  simp (disch := omega) only [rm_, c20, h4', go_sem, reduceCtorEq, ↓reduceIte]
  refine aB_ (fun n t h => ∃ k : Nat, t 0 = .list 0 6 (xs.map ab_.cells) ∧ t 3 = .val (.int .i64 k) ∧ n = xs.length - k ∧ k ≤ xs.length ∧ (xs.all cg_ = (xs.drop k).all cg_)) (xs.length) ?_ ?_
  ·exact ⟨0, rfl, rfl, rfl, Nat.zero_le _, rfl⟩
  ·rintro J hJ n t h ⟨k, t0, k3, rfl, hk, hS⟩
   by_cases hlt : k < xs.length
   ·skip
    rw [mV_ cg_ xs k hlt] at hS
    simp (disch := omega) only [t0, k3, hlt, ab_.cells, go_sem, reduceEqDiff, Nat.reduceAdd, reduceCtorEq, ↓reduceIte]
    repeat' (first
     | exact ae_ _ _
     | exact ⟨xs.length - (k + 1), by omega, hJ _ _ _ ⟨k + 1, by simp [upd, t0], by simp [upd], rfl, by omega, by rw [hS]; first | (simp only [cg_, *, Bool.true_and, Bool.and_self]; done) | simp [cg_, *]⟩⟩
     | (refine ac_ ?_; rw [hS0, hS]; first | (simp only [cg_, *, Bool.and_false, Bool.false_and]; done) | (simp [cg_, *]; done))
     | (refine ac_ ?_; rw [hS0, hS, jh_ _ _ _ (by omega)])
     | simp (disch := omega) only [t0, k3, go_sem, reduceEqDiff, reduceCtorEq, ↓reduceIte]
     | (refine aa_.call (ep_ _ _) ?_)
     | (refine aa_.q (ep_ _ _) ?_)
     | (refine aa_.call (es_ (xs[k]).Event (ab_.sz_Event (hm _ (getElem_mem hlt))) _) ?_)
     | (refine aa_.q (es_ (xs[k]).Event (ab_.sz_Event (hm _ (getElem_mem hlt))) _) ?_)
     | ((first | (apply aM_; assumption) | (apply aN_; assumption) | (apply a6_; assumption) | (apply a5_; assumption)); intro hb; try simp only [hb])
     | ((first | (apply ay_; assumption) | (apply ax_; assumption) | (apply aG_; assumption) | (apply aH_; assumption)); intro hb; try simp only [hb])
     | ((first | apply at_ | apply aw_ | apply ai_ | apply ak_) <;> intro hb <;> (try simp only [hb]) <;> (first | have hp := aO_ hb | have hp := aQ_ hb | have hp := aR_ hb | have hp := aP_ hb | skip)))
   ·skip
    simp (disch := omega) only [t0, k3, hlt, go_sem, reduceEqDiff, reduceCtorEq, ↓reduceIte]
    repeat' (first
     | exact ae_ _ _
     | (refine ac_ ?_; rw [hS0, hS]; first | (simp only [cg_, *, Bool.and_true, Bool.true_and, Bool.and_false, Bool.false_and, Bool.or_true, Bool.true_or, Bool.or_false, Bool.false_or, Bool.not_true, Bool.not_false, decide_true, decide_false, Bool.and_self, Bool.or_self]; done) | (simp [cg_, *]; done))
     | (refine ac_ ?_; rw [hS0, hS, jh_ _ _ _ (by omega)])
     | simp (disch := omega) only [t0, k3, go_sem, reduceEqDiff, Nat.reduceAdd, reduceLeDiff, reduceCtorEq, Int.reduceLT, Int.reduceLE, Int.reduceNeg, Int.reduceSub, Int.reduceAdd, Int.reduceToNat, ↓reduceIte]
     | (refine aa_.call (ep_ _ _) ?_)
     | (refine aa_.q (ep_ _ _) ?_)
     | (refine aa_.call (es_ (xs[k]).Event (ab_.sz_Event (hm _ (getElem_mem hlt))) _) ?_)
     | (refine aa_.q (es_ (xs[k]).Event (ab_.sz_Event (hm _ (getElem_mem hlt))) _) ?_)
     | ((first | (apply aM_; assumption) | (apply aN_; assumption) | (apply a6_; assumption) | (apply a5_; assumption)); intro hb; try simp only [hb])
     | ((first | (apply ay_; assumption) | (apply ax_; assumption) | (apply aG_; assumption) | (apply aH_; assumption)); intro hb; try simp only [hb])
     | ((first | apply at_ | apply aw_ | apply ai_ | apply ak_) <;> intro hb <;> (try simp only [hb]) <;> (first | have hp := aO_ hb | have hp := aQ_ hb | have hp := aR_ hb | have hp := aP_ hb | skip)))
 ·have h4' : ((60 : Int) < xs.length) = True := eq_true (by omega)
  simp (disch := omega) only [rm_, c20, h4', go_sem, reduceCtorEq, ↓reduceIte]
  exact ac_ (by simp [bZ_, h4])
def bD_ (x : ad_) : List ByteArray := if x.Kind = 5 then bu_ x.Subs else if x.Kind = 6 then [] else x.Subs
def je_ (x : ad_) : AV := if x.Kind = 6 then .val (.slice none 0 0) else .list 0 1 ((bD_ x).map aF_)
theorem hO_ (x : ad_) (H : List Row) : bU_ H (je_ x) (.list 0 1 ((bD_ x).map aF_)) := by
 unfold je_
 by_cases k6 : x.Kind = 6
 ·rw [if_pos k6, bD_, if_neg (by omega), if_pos k6]; exact (az_.mknil 0 0 H 1).arg
 ·rw [if_neg k6]; exact bU_.same rfl
theorem h5_ (x : ad_) : (bD_ x).length ≤ x.Subs.length := by
 unfold bD_
 split
 ·rw [bu_, length_take]; omega
 ·split
  ·simp
  ·exact Nat.le_refl _
theorem eb_ {x : ad_} (h : bx_ x = true) (k5 : x.Kind = 5) : 0 < x.Subs.length := by
 rw [cH_, Bool.and_eq_true, bW_, if_pos k5] at h
 have := h.1
 simp only [Bool.and_eq_true, decide_eq_true_eq] at this
 omega
def c79 : LC :=
 .q [.o [.bx 1 47 0, .nl 2], .q [.o [.fa 3 0 1, .ln 4 3], .block 0 (.q [.o [.bk 6 .eql false 4 5, .m 5 6], .k 5 (.q [.o [.fa 7 2 1, .ln 8 7, .fa 9 2 1, .ln 10 9, .ll 11 10, .bk 12 .sub false 11 1, .s 13 (.sliceSl 1 (.tmp
 8) none (some (.tmp 12))), .m 2 13], .ret]) (.q [.o [.bk 15 .eql false 4 6, .m 14 15], .k 14 (.q [.o [.nl 2], .ret]) .skip])])], .o [.fa 16 2 1, .ln 17 16, .m 2 17], .ret]
def pp_ : LF := ⟨1, 18, c79, [.tmp 2]⟩
theorem wI_ : av_ prog Tryz.f79 pp_ := am_
theorem fk_ (x : ad_) (hx : ad_.sz x ≤ 1048576) (hp : x.Kind = 5 → 0 < x.Subs.length) (h : List Row) : aa_ prog 79 [.agg (ad_.cells x)] h (je_ x) := by
 refine ap_ mixed Tryz.func79 wI_ rfl rfl ?_ h
 have h2 := bz_ (ad_.sz_Subs hx)
 by_cases k5 : x.Kind = 5
 ·have h0 := hp k5
  have hw : IntKind.i64.wrap ((x.Subs.length : Int) - 1) = ((x.Subs.length - 1 : Nat) : Int) := by rw [aq_ (n := (x.Subs.length : Int) - 1) (by omega) (by omega)]; omega
  have hfr : x.Subs.take (x.Subs.length - 1) = bu_ x.Subs := rfl
  simp (disch := omega) only [pp_, c79, ad_.cells, k5, hw, fQ_, hfr, go_sem, reduceEqDiff, Nat.reduceAdd, ↓reduceIte]
  rw [je_, if_neg (by omega), bD_, if_pos k5]
  exact ⟨1, rfl⟩
 ·by_cases k6 : x.Kind = 6
  ·simp (disch := omega) only [pp_, c79, ad_.cells, k6, Int.reduceEq, go_sem, reduceEqDiff, Nat.reduceAdd, ↓reduceIte]
   rw [je_, if_pos k6]
   exact ⟨1, rfl⟩
  ·simp (disch := omega) only [pp_, c79, ad_.cells, k5, k6, go_sem, reduceEqDiff, Nat.reduceAdd, ↓reduceIte]
   rw [je_, if_neg k6, bD_, if_neg k5, if_neg k6]
   exact ⟨1, rfl⟩
def dH_ (a b : ad_) : Bool := bx_ a && bx_ b && ((bY_ a || bY_ b) && way a.Name (bD_ a) b.Name (bD_ b))
theorem tb_ {H : List Row} {a b c d b' d' : AV} (h1 : a.plain = true) (h2 : bU_ H b b') (h3 : c.plain = true) (h4 : bU_ H d d') : aX_ H [a, b, c, d] [a, b', c, d'] :=
 .cons (.same h1) (.cons h2 (.cons (.same h3) (.one h4)))
def c47 : LC :=
 .q [.o [.bx 2 47 0, .bx 3 47 1, .f 4], .dops [.ld 5 5 2, .c1 6 46 5, .m 7 6, .gl 8 7 true 5 3, .gc 9 7 true 46 8, .pf 10 7 9, .m 11 10, .gl 12 11 true 5 2, .gc 13 11 true 77 12, .gm 14 11 true 13, .gl 15 14 false 5 3,
 .gc 16 14 false 77 15, .g 17 11 true (.pick (.tmp 14) (.const (.bool true)) (.tmp 16)), .pf 18 11 17, .m 19 18, .gf 20 19 true 1 2, .gn 21 19 true 20, .gl 22 19 true 5 2, .gc 23 19 true 79 22, .gf 24 19 true 1 3, .gn 25
 19 true 24, .gl 26 19 true 5 3, .gc 27 19 true 79 26, .g 28 19 true (.call 78 [.tmp 21, .tmp 23, .tmp 25, .tmp 27]), .pf 29 19 28, .m 4 29], .ret]
def p8_ : LF := ⟨2, 30, c47, [.tmp 4]⟩
theorem xq_ : av_ prog Tryz.f47 p8_ := am_
theorem jl_ (x y : ad_) (hx : ad_.sz x ≤ 1048576) (hy : ad_.sz y ≤ 1048576) (h : List Row) : aa_ prog 47 [.agg (ad_.cells x), .agg (ad_.cells y)] h (.val (.bool (dH_ x y))) := by
 refine ap_ mixed Tryz.func47 xq_ rfl rfl ?_ h
 have h1 := bz_ (ad_.sz_Subs hx)
 have h2 := bz_ (ad_.sz_Subs hy)
 have a1 := h5_ x
 have a2 := h5_ y
 by_cases n1 : bx_ x = true
 case neg =>
  have n1' : bx_ x = false := by simpa using n1
  have hR := fun h => dD_ x hx h
  rw [n1'] at hR
  simp (disch := omega) only [p8_, c47, ad_.cells, go_sem, reduceEqDiff, Nat.reduceAdd, ↓reduceIte]
  repeat' (first
   | exact ae_ _ _
   | (refine ac_ ?_; simp only [dH_, n1', Bool.false_and]; done)
   | simp (disch := omega) only [go_sem, reduceEqDiff, ↓reduceIte]
   | (refine aa_.call (hR _) ?_)
   | (refine aa_.q (hR _) ?_)
   | ((first | (apply ay_; assumption) | (apply ax_; assumption) | (apply aG_; assumption) | (apply aH_; assumption)); intro hb; try simp only [hb])
   | ((first | (apply kK_; assumption) | (apply kX_; assumption) | (apply mE_; assumption) | (apply mH_; assumption)); intro hb; try simp only [hb])
   | ((first | apply ai_ | apply ak_ | apply go_ | apply gS_) <;> intro hb <;> (try simp only [hb]) <;> (first | have hp := aO_ hb | have hp := aQ_ hb | have hp := aR_ hb | have hp := aP_ hb | skip)))
 by_cases n2 : bx_ y = true
 case neg =>
  have n2' : bx_ y = false := by simpa using n2
  have hR := fun h => dD_ x hx h
  have hR2 := fun h => dD_ y hy h
  rw [n1] at hR
  rw [n2'] at hR2
  simp (disch := omega) only [p8_, c47, ad_.cells, go_sem, reduceEqDiff, Nat.reduceAdd, ↓reduceIte]
  repeat' (first
   | exact ae_ _ _
   | (refine ac_ ?_; simp only [dH_, n1, n2', Bool.and_false, Bool.false_and]; done)
   | simp (disch := omega) only [go_sem, reduceEqDiff, Nat.reduceAdd, ↓reduceIte]
   | (refine aa_.call (hR _) ?_)
   | (refine aa_.q (hR _) ?_)
   | (refine aa_.call (hR2 _) ?_)
   | (refine aa_.q (hR2 _) ?_)
   | ((first | (apply ay_; assumption) | (apply ax_; assumption) | (apply aG_; assumption) | (apply aH_; assumption)); intro hb; try simp only [hb])
   | ((first | (apply kK_; assumption) | (apply kX_; assumption) | (apply mE_; assumption) | (apply mH_; assumption)); intro hb; try simp only [hb])
   | ((first | apply ai_ | apply ak_ | apply go_ | apply gS_) <;> intro hb <;> (try simp only [hb]) <;> (first | have hp := aO_ hb | have hp := aQ_ hb | have hp := aR_ hb | have hp := aP_ hb | skip)))
 have hR := fun h => dD_ x hx h
 have hR2 := fun h => dD_ y hy h
 rw [n1] at hR
 rw [n2] at hR2
 have e : dH_ x y = ((bY_ x || bY_ y) && way x.Name (bD_ x) y.Name (bD_ y)) := by simp only [dH_, n1, n2, Bool.true_and]
 simp (disch := omega) only [p8_, c47, ad_.cells, go_sem, reduceEqDiff, Nat.reduceAdd, ↓reduceIte]
 repeat' (first
  | exact ae_ _ _
  | (refine ac_ ?_; rw [e]; simp only [*, Bool.true_and, Bool.false_and, Bool.or_true, Bool.true_or, Bool.or_self]; done)
  | simp (disch := omega) only [go_sem, reduceEqDiff, Nat.reduceAdd, ↓reduceIte]
  | (refine aa_.call (hR _) ?_)
  | (refine aa_.q (hR _) ?_)
  | (refine aa_.call (hR2 _) ?_)
  | (refine aa_.q (hR2 _) ?_)
  | (refine aa_.call (d3_ x _) ?_)
  | (refine aa_.q (d3_ x _) ?_)
  | (refine aa_.call (d3_ y _) ?_)
  | (refine aa_.q (d3_ y _) ?_)
  | (refine aa_.call (fk_ x hx (eb_ n1) _) ?_)
  | (refine aa_.q (fk_ x hx (eb_ n1) _) ?_)
  | (refine aa_.call (fk_ y hy (eb_ n2) _) ?_)
  | (refine aa_.q (fk_ y hy (eb_ n2) _) ?_)
  | (refine aa_.call (aa_.own (gB_ x.Name (bD_ x) y.Name (bD_ y) (by omega) (by omega)) (tb_ rfl (hO_ x _) rfl (hO_ y _))) ?_)
  | (refine aa_.q (aa_.own (gB_ x.Name (bD_ x) y.Name (bD_ y) (by omega) (by omega)) (tb_ rfl (hO_ x _) rfl (hO_ y _))) ?_)
  | ((first | (apply ay_; assumption) | (apply ax_; assumption) | (apply aG_; assumption) | (apply aH_; assumption)); intro hb; try simp only [hb])
  | ((first | (apply kK_; assumption) | (apply kX_; assumption) | (apply mE_; assumption) | (apply mH_; assumption)); intro hb; try simp only [hb])
  | ((first | apply ai_ | apply ak_ | apply go_ | apply gS_) <;> intro hb <;> (try simp only [hb]) <;> (first | have hp := aO_ hb | have hp := aQ_ hb | have hp := aR_ hb | have hp := aP_ hb | skip)))
def vT_ : LC :=
 .q [.o [.nl 2], .o [.s 3 (.buildSlice 9 1 (.string ⟨#[]⟩) 0 []), .m 4 0, .ap 5 9 1 16 3 4, .m 2 5], .ret]
def s8_ : LF := ⟨1, 6, vT_, [.tmp 2]⟩
theorem uq_ : av_ prog Tryz.f125 s8_ := am_
theorem fY_ (xs : List ByteArray) (hx : xs.length ≤ 1048576) : bh_ prog 125 [.list 0 1 (xs.map aF_)] (.list 0 1 (xs.map aF_)) (fun a => ∃ l, a = .own l xs.length) := by
 refine dP_ mixed Tryz.func125 uq_ rfl (fun h0 => ?_)
 simp (disch := omega) only [s8_, vT_, go_sem, reduceEqDiff, reduceCtorEq, ↓reduceIte]
 refine ⟨by omega, by omega, ?_, _, rfl, (c8_ (by rw [gb_]; rfl) (Nat.le_refl _)).fresh, _, rfl⟩
 intro e he
 obtain ⟨x, _, q⟩ := mem_map.1 he; subst q; rfl
theorem me_ {base base' : Nat} {H : List Row} {a r : AV} (h : bP_ base H a r) (hb : base' ≤ base) : bP_ base' H a r := (h.b.widen hb (Nat.le_refl _)).fresh
theorem vl_ {x : ad_} (k : x.Kind = 5) : bD_ x = bu_ x.Subs := by rw [bD_, if_pos k]
theorem ve_ {x : ad_} (k : x.Kind = 6) : bD_ x = [] := by rw [bD_, if_neg (by omega), if_pos k]
theorem vA_ {x : ad_} (k5 : ¬ x.Kind = 5) (k6 : ¬ x.Kind = 6) : bD_ x = x.Subs := by rw [bD_, if_neg k5, if_neg k6]
def c91 : LC :=
 .q [.o [.bx 1 47 0, .nl 2], .q [.o [.fa 3 0 1, .ln 4 3], .block 0 (.q [.o [.bk 6 .eql false 4 5, .m 5 6], .k 5 (.q [.o [.fa 7 2 1, .ln 8 7, .fa 9 2 1, .ln 10 9, .ll 11 10, .bk 12 .sub false 11 1, .s 13 (.sliceSl 1 (.tmp
 8) none (some (.tmp 12))), .c1 14 125 13, .m 2 14], .ret]) (.q [.o [.bk 16 .eql false 4 6, .m 15 16], .k 15 (.q [.o [.s 17 (.buildSlice 9 1 (.string ⟨#[]⟩) 0 []), .m 2 17], .ret]) .skip])])], .o [.fa 18 2 1, .ln 19 18,
 .c1 20 125 19, .m 2 20], .ret]
def pj_ : LF := ⟨1, 21, c91, [.tmp 2]⟩
theorem xo_ : av_ prog Tryz.f91 pj_ := am_
theorem iZ_ (x : ad_) (hx : ad_.sz x ≤ 1048576) (hp : x.Kind = 5 → 0 < x.Subs.length) : bh_ prog 91 [.agg (ad_.cells x)] (.list 0 1 ((bD_ x).map aF_)) (fun a => ∃ l, a = .own l (bD_ x).length) := by
 refine dP_ mixed Tryz.func91 xo_ rfl (fun h0 => ?_)
 have h2 := bz_ (ad_.sz_Subs hx)
 have hfl : (bu_ x.Subs).length ≤ 1048576 := by rw [bu_, length_take]; omega
 by_cases k5 : x.Kind = 5
 ·have h0' := hp k5
  have hw : IntKind.i64.wrap ((x.Subs.length : Int) - 1) = ((x.Subs.length - 1 : Nat) : Int) := by rw [aq_ (n := (x.Subs.length : Int) - 1) (by omega) (by omega)]; omega
  have hfr : x.Subs.take (x.Subs.length - 1) = bu_ x.Subs := rfl
  rw [vl_ k5]
  simp (disch := omega) only [pj_, c91, ad_.cells, k5, hw, fQ_, hfr, ar_, go_sem, reduceEqDiff, Nat.reduceAdd, ↓reduceIte]
  refine fY_ _ hfl _ _ (fun av hn hf hq => ?_)
  obtain ⟨l, rfl⟩ := hq
  simp (disch := omega) only [go_sem, ↓reduceIte]
  have hz := me_ (base' := h0.length) hf (by simp)
  rw [append_assoc] at hz
  exact ⟨_, rfl, hz, _, rfl⟩
 ·by_cases k6 : x.Kind = 6
  ·rw [ve_ k6]
   simp (disch := omega) only [pj_, c91, ad_.cells, k6, Int.reduceEq, ar_, go_sem, reduceEqDiff, Nat.reduceAdd, ↓reduceIte]
   exact ⟨_, rfl, (c8_ (out := []) (E := 9) (by first | (rw [fe_]; rfl) | (rw [fe_]; simp)) (by omega)).fresh, _, rfl⟩
  ·rw [vA_ k5 k6]
   simp (disch := omega) only [pj_, c91, ad_.cells, k5, k6, ar_, go_sem, reduceEqDiff, Nat.reduceAdd, ↓reduceIte]
   refine fY_ _ h2 _ _ (fun av hn hf hq => ?_)
   obtain ⟨l, rfl⟩ := hq
   simp (disch := omega) only [go_sem, ↓reduceIte]
   have hz := me_ (base' := h0.length) hf (by simp)
   rw [append_assoc] at hz
   exact ⟨_, rfl, hz, _, rfl⟩
theorem d2_ (x : ad_) (hx : ad_.sz x ≤ 1048576) (hp : x.Kind = 5 → 0 < x.Subs.length) (h : List Row) : aa_ prog 91 [.agg (ad_.cells x)] h (.list 0 1 ((bD_ x).map aF_)) := (iZ_ x hx hp).pure rfl h
def c69 : LC :=
 .q [.o [.bx 2 47 0, .bx 3 47 1, .f 4], .dops [.ld 5 5 2, .c1 6 63 5, .m 7 6, .gl 8 7 false 5 3, .gc 9 7 false 63 8, .pt 10 7 9, .m 11 10, .gf 12 11 true 1 2, .gn 13 11 true 12, .gl 14 11 true 5 2, .gc 15 11 true 91 14,
 .gf 16 11 true 1 3, .gn 17 11 true 16, .gl 18 11 true 5 3, .gc 19 11 true 91 18, .g 20 11 true (.call 90 [.tmp 13, .tmp 15, .tmp 17, .tmp 19]), .pf 21 11 20, .m 4 21], .ret]
def vb_ : LF := ⟨2, 22, c69, [.tmp 4]⟩
theorem xz_ : av_ prog Tryz.f69 vb_ := am_
theorem iC_ (x y : ad_) (hx : ad_.sz x ≤ 1048576) (hy : ad_.sz y ≤ 1048576) (n1 : bx_ x = true) (n2 : bx_ y = true) (h : List Row) : aa_ prog 69 [.agg (ad_.cells x), .agg (ad_.cells y)] h (.val (.bool ((bY_ x || bY_ y) && way x.Name (bD_ x) y.Name (bD_ y)))) := by
 refine ap_ mixed Tryz.func69 xz_ rfl rfl ?_ h
 have h1 := bz_ (ad_.sz_Subs hx)
 have h2 := bz_ (ad_.sz_Subs hy)
 have a1 := h5_ x
 have a2 := h5_ y
 simp (disch := omega) only [vb_, c69, ad_.cells, go_sem, reduceEqDiff, Nat.reduceAdd, ↓reduceIte]
 repeat' (first
  | exact ae_ _ _
  | (refine ac_ ?_; simp only [*, Bool.and_true, Bool.true_and, Bool.and_false, Bool.false_and, Bool.or_true, Bool.true_or, Bool.or_false, Bool.false_or, Bool.not_true, Bool.not_false, decide_true, decide_false, Bool.and_self, Bool.or_self]; done)
  | simp (disch := omega) only [go_sem, reduceEqDiff, Nat.reduceAdd, ↓reduceIte]
  | (refine aa_.call (dd_ x _) ?_)
  | (refine aa_.q (dd_ x _) ?_)
  | (refine aa_.call (dd_ y _) ?_)
  | (refine aa_.q (dd_ y _) ?_)
  | (refine aa_.call (d2_ x hx (eb_ n1) _) ?_)
  | (refine aa_.q (d2_ x hx (eb_ n1) _) ?_)
  | (refine aa_.call (d2_ y hy (eb_ n2) _) ?_)
  | (refine aa_.q (d2_ y hy (eb_ n2) _) ?_)
  | (refine aa_.call (hA_ x.Name (bD_ x) y.Name (bD_ y) (by omega) (by omega) _) ?_)
  | (refine aa_.q (hA_ x.Name (bD_ x) y.Name (bD_ y) (by omega) (by omega) _) ?_)
  | ((first | (apply ay_; assumption) | (apply ax_; assumption) | (apply aG_; assumption) | (apply aH_; assumption)); intro hb; try simp only [hb])
  | ((first | (apply kK_; assumption) | (apply kX_; assumption) | (apply mE_; assumption) | (apply mH_; assumption)); intro hb; try simp only [hb])
  | ((first | apply ai_ | apply ak_ | apply go_ | apply gS_) <;> intro hb <;> (try simp only [hb]) <;> (first | have hp := aO_ hb | have hp := aQ_ hb | have hp := aR_ hb | have hp := aP_ hb | skip)))
theorem jv_ (a b : Int) : [[AV.val (Value.int .i64 a), AV.val (Value.int .i64 b)]] = aD_ [(a, b)] := rfl
theorem jw_ (ps : List (Int × Int)) : ∀ e ∈ aD_ ps, e.all AV.cell = true := by
 intro e he
 obtain ⟨z, _, q⟩ := mem_map.1 he
 subst q; rfl
def bo_ (a b : ab_) : Bool := dH_ a.Event b.Event
theorem pO_ {α : Type} (job : α → Int) (conf : α → α → Bool) (pre : List α) (b : α) (j : Nat) (h : j < pre.length) : g5_ job conf (pre.take (j + 1)) b = if (!decide (job pre[j] = job b) && conf pre[j] b) then g5_ job conf (pre.take j) b ++ [(job pre[j], job b)] else g5_ job conf (pre.take j) b := by
 unfold g5_
 rw [take_succ_eq_append_getElem h, filter_append]
 cases q : (!decide (job pre[j] = job b) && conf pre[j] b) <;> simp [q]
def na_ (xs : List ab_) : List (Int × Int) := a3_ (gd_ (i5_ ab_.Job bo_ xs xs.length))
theorem fy_ (x : ab_) : ab_.cells x = [.val (.int .i64 x.Job), .val (.int .i64 x.Event.Kind), .val (.string x.Event.Name), .list 0 1 (x.Event.Subs.map aF_), .val (.string x.Event.Value), .val (.int .i64 x.Event.N)] := rfl
def c24 : LC :=
 .q [.o [.nl 2], .o [.s 8 (.buildSlice 53 2 z0z 0 []), .m 3 8], .q [.o [.m 9 0, .ll 10 9, .ki 11 0], .block 0 (.loop (.q [.o [.bb 12 .lss false 11 10], .k 12 .skip (.exit 0), .block 1 (.q [.o [.m 13 11, .ia 14 6 9 11, .ld
 15 6 14, .s 5 (.alloc 49 (.agg #[.int .i64 0, .int .i64 0, .string ⟨#[]⟩, .slice none 0 0, .string ⟨#[]⟩, .int .i64 0])), .m 4 13, .st 6 5 15], .o [.m 16 0, .m 17 4, .s 18 (.sliceSl 6 (.tmp 16) none (some (.tmp 17))),
 .ll 19 18, .ki 20 0], .block 2 (.loop (.q [.o [.bb 21 .lss false 20 19], .k 21 .skip (.exit 2), .block 3 (.q [.o [.ia 22 6 18 20, .ld 23 6 22, .s 7 (.alloc 49 (.agg #[.int .i64 0, .int .i64 0, .string ⟨#[]⟩, .slice none
 0 0, .string ⟨#[]⟩, .int .i64 0])), .st 6 7 23], .o [.fa 24 0 7, .ln 25 24, .fa 26 0 5, .ln 27 26, .bb 28 .neq false 25 27, .m 29 28, .gf 30 29 true 1 7, .gl 31 29 true 5 30, .gf 32 29 true 1 5, .gl 33 29 true 5 32, .g
 34 29 true (.call 47 [.tmp 31, .tmp 33]), .pf 35 29 34], .k 35 (.o [.m 36 3, .fa 37 0 7, .ln 38 37, .fa 39 0 5, .ln 40 39, .s 41 (.build z0z [(0, 1), (1, 1)] [(0, .tmp 38), (1, .tmp 40)]), .s 42 (.buildSlice 53 2 z0z 1
 [(0, .tmp 41)]), .ap 43 53 2 16 36 42, .m 3 43]) .skip]), .o [.bk 44 .add false 20 1, .m 20 44]]))]), .o [.bk 45 .add false 11 1, .m 11 45]]))], .o [.m 46 3, .s 47 (.call 48 [.tmp 46, .func 49])], .o [.m 48 3, .c1 49 52
 48, .m 2 49], .ret]
def vC_ : LF := ⟨1, 50, c24, [.tmp 2]⟩
theorem wE_ : av_ Tryz.prog Tryz.f24 vC_ := am_
theorem iW_ (xs : List ab_) (hs : aI_ ab_.sz xs ≤ 1048576) (h60 : xs.length ≤ 60) : bh_ Tryz.prog 24 [.list 0 6 (xs.map ab_.cells)] (.list 0 2 (aD_ (na_ xs))) (fun a => True) := by
 refine fT_ mixed Tryz.func24 wE_ rfl (fun h0 => ?_)
 have hm : ∀ x ∈ xs, ab_.sz x ≤ 1048576 := fun x hx => by have := c2_ (f := ab_.sz) hx; omega
 have hcf : ∀ (a b : ab_) (H : List Row), a ∈ xs → b ∈ xs → aa_ Tryz.prog 47 [.agg [.val (.int .i64 a.Event.Kind), .val (.string a.Event.Name), .list 0 1 (a.Event.Subs.map aF_), .val (.string a.Event.Value), .val (.int .i64 a.Event.N)], .agg [.val (.int .i64 b.Event.Kind), .val (.string b.Event.Name), .list 0 1 (b.Event.Subs.map aF_), .val (.string b.Event.Value), .val (.int .i64 b.Event.N)]] H (.val (.bool (bo_ a b))) :=
  fun a b H ha hb => jl_ a.Event b.Event (ab_.sz_Event (hm a ha)) (ab_.sz_Event (hm b hb)) H
 simp (disch := (first | omega | (simp only [ls_, la_, lc_, ln_]; first | done | omega))) only [go_sem, reduceCtorEq, ↓reduceIte, vC_, c24]
 refine aB_ (fun m t h => ∃ (k : Nat) (out : List (Int × Int)), t 0 = .list 0 6 (xs.map ab_.cells) ∧ t 3 = .own h0.length out.length ∧ t 9 = .list 0 6 (xs.map ab_.cells) ∧ t 10 = .val (.int .i64 xs.length) ∧ t 11 = .val (.int .i64 k) ∧ bd_ h0 h ∧ h[h0.length]? = some ⟨.ty 53, 2, aD_ out⟩ ∧ m = xs.length - k ∧ k ≤ xs.length ∧ out.length ≤ 60 * k ∧ out = i5_ ab_.Job bo_ xs k) xs.length ⟨0, [], rfl, rfl, rfl, rfl, rfl, bd_.app _ _, bG_ rfl, rfl, Nat.zero_le _, Nat.le_refl _, rfl⟩ ?_
 rintro J hJ m t h ⟨k, out, t0, t3, t9, t10, t11, mo, o0, rfl, hk, ho, hS⟩
 have hll := (List.getElem?_eq_some_iff.1 o0).1
 by_cases hlt : k < xs.length
 case neg =>
  have e : k = xs.length := by omega
  subst e
  simp (disch := (first | omega | (simp only [ls_, la_, lc_, ln_]; first | done | omega))) only [go_sem, reduceEqDiff, ↓reduceIte, t3, t10, t11, hlt]
  refine fz_ o0 (by omega) ?_
  simp (disch := (first | omega | (simp only [ls_, la_, lc_, ln_]; first | done | omega))) only [go_sem, reduceEqDiff, ↓reduceIte, t3]
  have hsl : (gd_ out).length = out.length := qX_ _
  have o1 : (h.set h0.length ⟨.ty 53, 2, aD_ (gd_ out)⟩)[h0.length]? = some ⟨.ty 53, 2, aD_ (gd_ out)⟩ := cd_ hll
  rw [← hsl]
  refine fZ_ (by omega) o1 (fun a r' hr hf => ?_)
  simp (disch := (first | omega | (simp only [ls_, la_, lc_, ln_]; first | done | omega))) only [go_sem, ↓reduceIte, set_set]
  rw [na_, ← hS]
  rw [set_set] at hf
  exact ⟨mo.set (Nat.le_refl _), hf.widen (Nat.le_refl _) (by simp; omega)⟩
 have hbm : xs[k] ∈ xs := getElem_mem hlt
 have hkl : ((k : Int) < (xs.length : Int)) = True := eq_true (by omega)
 have htl : (xs.take k).length = k := by rw [length_take]; omega
 simp (disch := (first | omega | (simp only [ls_, la_, lc_, ln_]; first | done | omega))) only [bG_, go_sem, reduceEqDiff, Nat.reduceAdd, reduceCtorEq, ↓reduceIte, t0, t9, t10, t11, hlt, fy_]
 refine aB_ (fun m t h2 => ∃ (j : Nat) (o2 : List (Int × Int)), t 0 = .list 0 6 (xs.map ab_.cells) ∧ t 3 = .own h0.length o2.length ∧ t 5 = .ptr h.length 1 0 0 ∧ t 9 = .list 0 6 (xs.map ab_.cells) ∧ t 10 = .val (.int .i64 xs.length) ∧ t 11 = .val (.int .i64 k) ∧ t 18 = .list 0 6 ((xs.map ab_.cells).take k) ∧ t 19 = .val (.int .i64 k) ∧ t 20 = .val (.int .i64 j) ∧ bd_ h0 h2 ∧ h2[h0.length]? = some ⟨.ty 53, 2, aD_ o2⟩ ∧ h2[h.length]? = some ⟨.ty 49, 6, [ab_.cells xs[k]]⟩ ∧ m = k - j ∧ j ≤ k ∧ o2.length ≤ 60 * k + j ∧ o2 = out ++ g5_ ab_.Job bo_ ((xs.take k).take j) xs[k]) k ⟨0, out, by simp [upd, t0], by simp [upd, t3], by simp [upd], by simp [upd, t9], by simp [upd, t10], by simp [upd, t11], by simp [upd], by simp [upd]; omega, by simp [upd], ?_, ?_, ?_, rfl, Nat.zero_le _, by omega, by simp [g5_]⟩ ?_
 ·exact mo.add _
 ·exact oP_ o0
 ·exact bG_ rfl
 rintro J2 hJ2 m t h2 ⟨j, o2, u0, u3, u5, u9, u10, u11, u18, u19, u20, mo2, p0, pb, rfl, hj, hol, hS2⟩
 have hl0 := (List.getElem?_eq_some_iff.1 p0).1
 have hlb := (List.getElem?_eq_some_iff.1 pb).1
 by_cases hjk : j < k
 case neg =>
  have e : j = k := by omega
  subst e
  have hnext : o2 = i5_ ab_.Job bo_ xs (j + 1) := by
   rw [hS2, i5_, getElem?_eq_getElem hlt, hS, take_of_length_le (Nat.le_of_eq htl)]
  simp (disch := (first | omega | (simp only [ls_, la_, lc_, ln_]; first | done | omega))) only [go_sem, reduceEqDiff, ↓reduceIte, u11, u19, u20, hjk, aq_]
  exact ⟨xs.length - (j + 1), by omega, hJ _ _ _ ⟨j + 1, o2, by simp [upd, u0], by simp [upd, u3], by simp [upd, u9], by simp [upd, u10], by simp [upd], mo2, p0, rfl, by omega, by omega, hnext⟩⟩
 have hjx : j < xs.length := by omega
 have ham : xs[j] ∈ xs := getElem_mem hjx
 have hgj : ((xs.map ab_.cells).take k)[j]? = some (ab_.cells xs[j]) := by
  rw [getElem?_take, if_pos hjk, getElem?_map, getElem?_eq_getElem hjx]; rfl
 have hst := pO_ ab_.Job bo_ (xs.take k) xs[k] j (by omega)
 rw [getElem_take] at hst
 have hlt18 : ((xs.map ab_.cells).take k).length = k := by rw [length_take, length_map]; omega
 rw [fy_] at pb hgj
 have next : ∀ (t' : Nat → AV) (h' : List Row) (o3 : List (Int × Int)), t' 0 = .list 0 6 (xs.map ab_.cells) → t' 3 = .own h0.length o3.length → t' 5 = .ptr h.length 1 0 0 → t' 9 = .list 0 6 (xs.map ab_.cells) → t' 10 = .val (.int .i64 xs.length) → t' 11 = .val (.int .i64 k) → t' 18 = .list 0 6 ((xs.map ab_.cells).take k) → t' 19 = .val (.int .i64 k) → t' 20 = .val (.int .i64 (j + 1 : Nat)) → bd_ h0 h' → h'[h0.length]? = some ⟨.ty 53, 2, aD_ o3⟩ → h'[h.length]? = h2[h.length]? → o3.length ≤ o2.length + 1 → o3 = out ++ g5_ ab_.Job bo_ ((xs.take k).take (j + 1)) xs[k] → ∃ m, m < k - j ∧ J2 m t' h' :=
  fun t' h' o3 e0 e3 e5 e9 e10 e11 e18 e19 e20 e21 e22 e23 e24 e25 => ⟨k - (j + 1), by omega, hJ2 _ _ _ ⟨j + 1, o3, e0, e3, e5, e9, e10, e11, e18, e19, e20, e21, e22, e23.trans pb, rfl, by omega, by omega, e25⟩⟩
 by_cases hjob : xs[j].Job = xs[k].Job
 ·have hjob' : (xs[j].Job = xs[k].Job) = True := eq_true hjob
  rw [decide_eq_true hjob] at hst
  simp (disch := (first | omega | (simp only [ls_, la_, lc_, ln_]; first | done | omega))) only [bl_, bG_, go_sem, reduceEqDiff, Nat.reduceAdd, ↓reduceIte, u5, u18, u19, u20, pb, hgj, hjk, hjob', aq_]
  exact next _ _ o2 (by simp [upd, u0]) (by simp [upd, u3]) (by simp [upd, u5]) (by simp [upd, u9]) (by simp [upd, u10]) (by simp [upd, u11]) (by simp [upd, u18]) (by simp [upd, u19]) (by simp [upd]) (mo2.add _) (by (repeat (first | rw [bn_ (by omega)] | rw [bl_ (by first | omega | (simp only [ls_, la_, lc_, ln_]; omega))])); exact p0) (by (repeat (first | rw [bn_ (by omega)] | rw [bl_ (by first | omega | (simp only [ls_, la_, lc_, ln_]; omega))]))) (by omega) (by rw [hst]; exact hS2)
 ·have hjob' : (xs[j].Job = xs[k].Job) = False := eq_false hjob
  rw [decide_eq_false hjob] at hst
  simp (disch := (first | omega | (simp only [ls_, la_, lc_, ln_]; first | done | omega))) only [bl_, bG_, go_sem, reduceEqDiff, Nat.reduceAdd, ↓reduceIte, u5, u18, u19, u20, pb, hgj, hjk, hjob']
  refine aa_.call (hcf _ _ _ ham hbm) ?_
  cases hcv : bo_ xs[j] xs[k]
  ·rw [hcv] at hst
   simp (disch := (first | omega | (simp only [ls_, la_, lc_, ln_]; first | done | omega))) only [go_sem, reduceEqDiff, ↓reduceIte, u20, aq_]
   exact next _ _ o2 (by simp [upd, u0]) (by simp [upd, u3]) (by simp [upd, u5]) (by simp [upd, u9]) (by simp [upd, u10]) (by simp [upd, u11]) (by simp [upd, u18]) (by simp [upd, u19]) (by simp [upd]) (mo2.add _) (by (repeat (first | rw [bn_ (by omega)] | rw [bl_ (by first | omega | (simp only [ls_, la_, lc_, ln_]; omega))])); exact p0) (by (repeat (first | rw [bn_ (by omega)] | rw [bl_ (by first | omega | (simp only [ls_, la_, lc_, ln_]; omega))]))) (by omega) (by rw [hst]; exact hS2)
  ·rw [hcv] at hst
   simp (disch := (first | omega | (simp only [ls_, la_, lc_, ln_]; first | done | omega))) only [bl_, bG_, gY_, go_sem, reduceEqDiff, Nat.reduceAdd, reduceLeDiff, ↓reduceIte, u3, u5, u20, p0, pb, fM_, Option.map_some, AV.cell, all_cons, all_nil, a0_, jv_, h0_, aq_]
   repeat (refine And.intro (by first | omega | exact gi_ _ | exact jw_ _ | (simp; done)) ?_)
   refine next _ _ (o2 ++ [(xs[j].Job, xs[k].Job)]) (by simp [upd, u0]) (by simp [upd]) (by simp [upd, u5]) (by simp [upd, u9]) (by simp [upd, u10]) (by simp [upd, u11]) (by simp [upd, u18]) (by simp [upd, u19]) (by simp [upd]) ?_ ?_ ?_ (by simp) (by rw [hst, hS2]; simp)
   ·exact (mo2.add _).set (Nat.le_refl _)
   ·exact cd_ (by simp; omega)
   ·rw [bn_ (by omega), bl_ (by omega)]
def nu_ (p : Int × Int) : cz_ := ⟨p.1, p.2⟩
theorem mZ_ (ps : List (Int × Int)) : aD_ ps = (ps.map nu_).map cz_.cells := by
 rw [map_map]; rfl
theorem hs_ {xs : List ab_} (h : bZ_ xs = true) : (∀ x ∈ xs, 1 ≤ x.Job ∧ x.Job ≤ 4) ∧ xs.length ≤ 60 ∧ ∀ x ∈ xs, bx_ x.Event = true := by
 simp only [bZ_, Bool.and_eq_true, decide_eq_true_eq, all_eq_true, cg_] at h
 refine ⟨fun x hx => ?_, by omega, fun x hx => (h.2 x hx).2⟩
 have := (h.2 x hx).1
 simp only [cv_, Bool.and_eq_true, decide_eq_true_eq] at this
 omega
theorem n5_ {xs : List ab_} (h : bZ_ xs = true) : na_ xs = cu_ ab_.Job bo_ xs := pW_ ab_.Job bo_ xs (hs_ h).1
theorem kP_ (xs : List ab_) : (cu_ ab_.Job bo_ xs).length ≤ 16 := length_filter_le _ _
theorem sk_ {α : Type} (job : α → Int) (conf : α → α → Bool) (f t : Int) (xs : List α) (i : Nat) (h : i < xs.length) : ej_ job conf f t (xs.drop i) = ((decide (job xs[i] = f) && (xs.drop (i + 1)).any fun b => decide (job b = t) && conf xs[i] b) || ej_ job conf f t (xs.drop (i + 1))) := by
 rw [drop_eq_getElem_cons h]; rfl
theorem tK_ {α : Type} (p : α → Bool) (xs : List α) (k : Nat) (h : k < xs.length) : (xs.drop k).any p = (p xs[k] || (xs.drop (k + 1)).any p) := by
 rw [drop_eq_getElem_cons h]; rfl
def ToB (a : ab_) (t : Int) (b : ab_) : Bool := decide (b.Job = t) && bo_ a b
def c41 : LC :=
 .q [.o [.f 6], .q [.o [.ki 7 0], .block 0 (.loop (.q [.q [.o [.m 9 7, .m 10 0, .ll 11 10, .bb 12 .lss false 9 11], .k 12 .skip (.exit 0)], .block 1 (.q [.o [.m 15 7, .bk 16 .add false 15 1, .m 8 16], .block 2 (.loop (.q
 [.q [.o [.m 17 8, .m 18 0, .ll 19 18, .bb 20 .lss false 17 19], .k 20 .skip (.exit 2)], .block 3 (.q [.dops [.m 23 0, .m 24 7, .ia 25 6 23 24, .fa 26 0 25, .ln 27 26, .m 28 1, .bb 29 .eql false 27 28, .m 30 29, .gm 31 30
 true 0, .gm 32 30 true 8, .g 33 30 true (.indexAddr 6 (.tmp 31) (.tmp 32)), .gf 34 30 true 0 33, .gn 35 30 true 34, .gm 36 30 true 2, .g 37 30 true (.bin .eql false (.tmp 35) (.tmp 36)), .pf 38 30 37, .m 39 38, .gm 40 39
 true 0, .gm 41 39 true 7, .g 42 39 true (.indexAddr 6 (.tmp 40) (.tmp 41)), .gf 43 39 true 1 42, .gl 44 39 true 5 43, .gm 45 39 true 0, .gm 46 39 true 8, .g 47 39 true (.indexAddr 6 (.tmp 45) (.tmp 46)), .gf 48 39 true 1
 47, .gl 49 39 true 5 48, .g 50 39 true (.call 69 [.tmp 44, .tmp 49]), .pf 51 39 50], .k 51 (.q [.o [.t 6], .ret]) .skip]), .o [.m 21 8, .bk 22 .add false 21 1, .m 8 22]]))]), .o [.m 13 7, .bk 14 .add false 13 1, .m 7
 14]]))], .o [.f 6], .ret]
def vL_ : LF := ⟨3, 52, c41, [.tmp 6]⟩
theorem wP_ : av_ Tryz.prog Tryz.f41 vL_ := am_
theorem kl_ (xs : List ab_) (f g : Int) (hs : aI_ ab_.sz xs ≤ 1048576) (h60 : xs.length ≤ 60) (hn : ∀ x ∈ xs, bx_ x.Event = true) (h : List Row) : aa_ Tryz.prog 41 [.list 0 6 (xs.map ab_.cells), .val (.int .i64 f), .val (.int .i64 g)] h (.val (.bool (ej_ ab_.Job bo_ f g xs))) := by
 refine ap_ mixed Tryz.func41 wP_ rfl rfl ?_ h
 have hm : ∀ x ∈ xs, ab_.sz x ≤ 1048576 := fun x hx => by have := c2_ (f := ab_.sz) hx; omega
 have hcf : ∀ (a b : ab_) (H : List Row), a ∈ xs → b ∈ xs → aa_ Tryz.prog 69 [.agg [.val (.int .i64 a.Event.Kind), .val (.string a.Event.Name), .list 0 1 (a.Event.Subs.map aF_), .val (.string a.Event.Value), .val (.int .i64 a.Event.N)], .agg [.val (.int .i64 b.Event.Kind), .val (.string b.Event.Name), .list 0 1 (b.Event.Subs.map aF_), .val (.string b.Event.Value), .val (.int .i64 b.Event.N)]] H (.val (.bool (bo_ a b))) := by
  intro a b H ha hb
  have := iC_ a.Event b.Event (ab_.sz_Event (hm a ha)) (ab_.sz_Event (hm b hb)) (hn a ha) (hn b hb) H
  have e : bo_ a b = ((bY_ a.Event || bY_ b.Event) && way a.Event.Name (bD_ a.Event) b.Event.Name (bD_ b.Event)) := by
   simp only [bo_, dH_, hn a ha, hn b hb, Bool.true_and]
  rw [e]; exact this
 simp (disch := omega) only [vL_, c41, go_sem]
 refine aB_ (fun m t h => ∃ (i : Nat), t 0 = .list 0 6 (xs.map ab_.cells) ∧ t 1 = .val (.int .i64 f) ∧ t 2 = .val (.int .i64 g) ∧ t 7 = .val (.int .i64 i) ∧ m = xs.length - i ∧ i ≤ xs.length ∧ ej_ ab_.Job bo_ f g xs = ej_ ab_.Job bo_ f g (xs.drop i)) xs.length ⟨0, rfl, rfl, rfl, rfl, rfl, Nat.zero_le _, rfl⟩ ?_
 rintro J hJ m t h ⟨i, t0, t1, t2, t7, rfl, hi, hS⟩
 by_cases hlt : i < xs.length
 case neg =>
  simp (disch := omega) only [t0, t7, hlt, go_sem, reduceEqDiff, reduceCtorEq, ↓reduceIte]
  refine ac_ ?_
  rw [hS, drop_eq_nil_of_le (by omega)]; rfl
 have ham : xs[i] ∈ xs := getElem_mem hlt
 rw [sk_ ab_.Job bo_ f g xs i hlt] at hS
 simp (disch := omega) only [t0, t7, hlt, aq_, go_sem, reduceEqDiff, reduceCtorEq, ↓reduceIte]
 refine aB_ (fun m t h => ∃ (k : Nat), t 0 = .list 0 6 (xs.map ab_.cells) ∧ t 1 = .val (.int .i64 f) ∧ t 2 = .val (.int .i64 g) ∧ t 7 = .val (.int .i64 i) ∧ t 8 = .val (.int .i64 k) ∧ m = xs.length - k ∧ i < k ∧ k ≤ xs.length ∧ ej_ ab_.Job bo_ f g xs = ((decide (xs[i].Job = f) && (xs.drop k).any (ToB xs[i] g)) || ej_ ab_.Job bo_ f g (xs.drop (i + 1)))) (xs.length - (i + 1)) ⟨i + 1, by simp [upd, t0], by simp [upd, t1], by simp [upd, t2], by simp [upd, t7], by simp [upd], rfl, by omega, by omega, hS⟩ ?_
 clear t0 t1 t2 t7 hS
 rintro J2 hJ2 m t h ⟨k, t0, t1, t2, t7, t8, rfl, hik, hk, hS⟩
 by_cases hlk : k < xs.length
 case neg =>
  rw [drop_eq_nil_of_le (show xs.length ≤ k by omega)] at hS
  simp only [any_nil, Bool.and_false, Bool.false_or] at hS
  simp (disch := omega) only [t0, t7, t8, hlk, aq_, go_sem, reduceEqDiff, reduceCtorEq, ↓reduceIte]
  exact ⟨xs.length - (i + 1), by omega, hJ _ _ _ ⟨i + 1, by simp [upd, t0], by simp [upd, t1], by simp [upd, t2], by simp [upd], rfl, by omega, hS⟩⟩
 have hbm : xs[k] ∈ xs := getElem_mem hlk
 rw [tK_ _ xs k hlk] at hS
 have next : (decide (xs[i].Job = f) && ToB xs[i] g xs[k]) = false → ∀ t' h', t' 0 = .list 0 6 (xs.map ab_.cells) → t' 1 = .val (.int .i64 f) → t' 2 = .val (.int .i64 g) → t' 7 = .val (.int .i64 i) → t' 8 = .val (.int .i64 (k + 1 : Nat)) → ∃ m, m < xs.length - k ∧ J2 m t' h' := by
  intro hq t' h' e0 e1 e2 e7 e8
  refine ⟨xs.length - (k + 1), by omega, hJ2 _ _ _ ⟨k + 1, e0, e1, e2, e7, e8, rfl, by omega, by omega, ?_⟩⟩
  rw [hS, Bool.and_or_distrib_left, hq, Bool.false_or]
 by_cases h1 : xs[i].Job = f
 case neg =>
  have h1' : (xs[i].Job = f) = False := eq_false h1
  simp (disch := omega) only [t0, t1, t7, t8, hlk, h1', fy_, aq_, go_sem, reduceEqDiff, Nat.reduceAdd, reduceCtorEq, ↓reduceIte]
  exact next (by simp [h1]) _ _ (by simp [upd, t0]) (by simp [upd, t1]) (by simp [upd, t2]) (by simp [upd, t7]) (by simp [upd])
 have h1' : (xs[i].Job = f) = True := eq_true h1
 by_cases h2 : xs[k].Job = g
 case neg =>
  have h2' : (xs[k].Job = g) = False := eq_false h2
  simp (disch := omega) only [t0, t1, t2, t7, t8, hlk, h1', h2', fy_, aq_, go_sem, reduceEqDiff, Nat.reduceAdd, reduceCtorEq, ↓reduceIte]
  exact next (by simp [ToB, h2]) _ _ (by simp [upd, t0]) (by simp [upd, t1]) (by simp [upd, t2]) (by simp [upd, t7]) (by simp [upd])
 have h2' : (xs[k].Job = g) = True := eq_true h2
 simp (disch := omega) only [t0, t1, t2, t7, t8, hlk, h1', h2', fy_, go_sem, reduceEqDiff, Nat.reduceAdd, reduceLeDiff, reduceCtorEq, ↓reduceIte]
 first | refine aa_.q (hcf _ _ _ ham hbm) ?_ | refine aa_.call (hcf _ _ _ ham hbm) ?_
 cases hcv : bo_ xs[i] xs[k]
 ·simp (disch := omega) only [t8, aq_, go_sem, reduceEqDiff, ↓reduceIte]
  exact next (by simp [ToB, hcv]) _ _ (by simp [upd, t0]) (by simp [upd, t1]) (by simp [upd, t2]) (by simp [upd, t7]) (by simp [upd])
 ·simp (disch := omega) only [go_sem, ↓reduceIte]
  refine ac_ ?_
  rw [hS]; simp [ToB, h1, h2, hcv]
def c21 : LC :=
 .q [.o [.nl 2], .o [.s 6 (.buildSlice 53 2 z0z 0 []), .m 3 6], .q [.o [.ki 4 1], .block 0 (.loop (.q [.q [.o [.m 7 4, .bk 8 .leq false 7 4], .k 8 .skip (.exit 0)], .block 1 (.q [.o [.ki 5 1], .block 2 (.loop (.q [.q [.o
 [.m 11 5, .bk 12 .leq false 11 4], .k 12 .skip (.exit 2)], .block 3 (.q [.o [.m 15 4, .m 16 5, .bb 17 .neq false 15 16, .m 18 17, .gm 19 18 true 0, .gm 20 18 true 4, .gm 21 18 true 5, .g 22 18 true (.call 41 [.tmp 19,
 .tmp 20, .tmp 21]), .pf 23 18 22], .k 23 (.o [.m 24 3, .m 25 4, .m 26 5, .s 27 (.build z0z [(0, 1), (1, 1)] [(0, .tmp 25), (1, .tmp 26)]), .s 28 (.buildSlice 53 2 z0z 1 [(0, .tmp 27)]), .ap 29 53 2 16 24 28, .m 3 29])
 .skip]), .o [.m 13 5, .bk 14 .add false 13 1, .m 5 14]]))]), .o [.m 9 4, .bk 10 .add false 9 1, .m 4 10]]))], .o [.m 30 3, .m 2 30], .ret]
def vF_ : LF := ⟨1, 31, c21, [.tmp 2]⟩
theorem wC_ : av_ Tryz.prog Tryz.f21 vF_ := am_
theorem iB_ (xs : List ab_) (hs : aI_ ab_.sz xs ≤ 1048576) (h60 : xs.length ≤ 60) (hn : ∀ x ∈ xs, bx_ x.Event = true) : bh_ Tryz.prog 21 [.list 0 6 (xs.map ab_.cells)] (.list 0 2 (aD_ (cu_ ab_.Job bo_ xs))) (fun a => ∃ l n, a = .own l n) := by
 refine fT_ mixed Tryz.func21 wC_ rfl (fun h0 => ?_)
 let Q := o7_ ab_.Job bo_ xs
 simp (disch := (first | omega | (simp only [ls_, la_, lc_, ln_]; first | done | omega))) only [go_sem, ↓reduceIte, vF_, c21]
 refine aB_ (fun m t h => ∃ (k : Nat), t 0 = .list 0 6 (xs.map ab_.cells) ∧ t 3 = .own h0.length (c5_ Q k 0).length ∧ t 4 = .val (.int .i64 ((k : Int) + 1)) ∧ bd_ h0 h ∧ h[h0.length]? = some ⟨.ty 53, 2, aD_ (c5_ Q k 0)⟩ ∧ m = 4 - k ∧ k ≤ 4) 4 ⟨0, rfl, rfl, rfl, bd_.app _ _, bG_ rfl, rfl, Nat.zero_le _⟩ ?_
 rintro J hJ m t h ⟨k, t0, t3, t4, mo, o0, rfl, hk⟩
 have hll := (List.getElem?_eq_some_iff.1 o0).1
 by_cases hlt : k < 4
 case neg =>
  have e : k = 4 := by omega
  subst e
  have e1 : (((4 : Nat) : Int) + 1 ≤ 4) = False := eq_false (by omega)
  simp (disch := (first | omega | (simp only [ls_, la_, lc_, ln_]; first | done | omega))) only [go_sem, reduceEqDiff, ↓reduceIte, t3, t4, e1]
  rw [show cu_ ab_.Job bo_ xs = c5_ Q 4 0 from (pT_ Q).symm]
  exact ⟨⟨mo, ⟨2, [h0.length], ⟨_, _, [], o0, a0_ _, eE_ _, rfl, rfl⟩, by simp, by simp; omega⟩⟩, _, _, rfl⟩
 have e1 : ((k : Int) + 1 ≤ 4) = True := eq_true (by omega)
 simp (disch := (first | omega | (simp only [ls_, la_, lc_, ln_]; first | done | omega))) only [go_sem, ↓reduceIte, t4, e1]
 refine aB_ (fun m t h => ∃ (j : Nat), t 0 = .list 0 6 (xs.map ab_.cells) ∧ t 3 = .own h0.length (c5_ Q k j).length ∧ t 4 = .val (.int .i64 ((k : Int) + 1)) ∧ t 5 = .val (.int .i64 ((j : Int) + 1)) ∧ bd_ h0 h ∧ h[h0.length]? = some ⟨.ty 53, 2, aD_ (c5_ Q k j)⟩ ∧ m = 4 - j ∧ j ≤ 4) 4 ⟨0, by simp [upd, t0], by simp [upd, t3], by simp [upd, t4], by simp [upd], mo, o0, rfl, Nat.zero_le _⟩ ?_
 clear t0 t3 t4 mo o0 hll
 rintro J2 hJ2 m t h ⟨j, t0, t3, t4, t5, mo, o0, rfl, hj⟩
 have hll := (List.getElem?_eq_some_iff.1 o0).1
 by_cases hjt : j < 4
 case neg =>
  have e : j = 4 := by omega
  subst e
  have e2 : (((4 : Nat) : Int) + 1 ≤ 4) = False := eq_false (by omega)
  simp (disch := (first | omega | (simp only [ls_, la_, lc_, ln_]; first | done | omega))) only [go_sem, reduceEqDiff, ↓reduceIte, t4, t5, e2, aq_]
  rw [← pG_] at t3 o0
  exact ⟨4 - (k + 1), by omega, hJ _ _ _ ⟨k + 1, by simp [upd, t0], by simp [upd, t3], by simp [upd], mo, o0, rfl, by omega⟩⟩
 have e2 : ((j : Int) + 1 ≤ 4) = True := eq_true (by omega)
 have hst := oe_ Q k j
 have hgl := p2_ Q k j
 have hQ : Q ((k : Int) + 1, (j : Int) + 1) = (!decide ((k : Int) + 1 = (j : Int) + 1) && ej_ ab_.Job bo_ ((k : Int) + 1) ((j : Int) + 1) xs) := rfl
 by_cases hkj : (k : Int) + 1 = (j : Int) + 1
 ·have hkj' : ((k : Int) + 1 = (j : Int) + 1) = True := eq_true hkj
  rw [decide_eq_true hkj] at hQ
  simp only [Bool.not_true, Bool.false_and] at hQ
  rw [hQ] at hst
  simp only [Bool.false_eq_true, if_false] at hst
  rw [← hst] at t3 o0
  simp (disch := (first | omega | (simp only [ls_, la_, lc_, ln_]; first | done | omega))) only [go_sem, reduceEqDiff, ↓reduceIte, t4, t5, e2, hkj', aq_]
  exact ⟨4 - (j + 1), by omega, hJ2 _ _ _ ⟨j + 1, by simp [upd, t0], by simp [upd, t3], by simp [upd, t4], by simp [upd], mo, o0, rfl, by omega⟩⟩
 have hkj' : ((k : Int) + 1 = (j : Int) + 1) = False := eq_false hkj
 rw [decide_eq_false hkj] at hQ
 simp only [Bool.not_false, Bool.true_and] at hQ
 simp (disch := (first | omega | (simp only [ls_, la_, lc_, ln_]; first | done | omega))) only [go_sem, reduceEqDiff, reduceCtorEq, ↓reduceIte, t0, t4, t5, e2, hkj']
 refine aa_.call (kl_ xs _ _ hs h60 hn _) ?_
 cases hE : ej_ ab_.Job bo_ ((k : Int) + 1) ((j : Int) + 1) xs
 ·rw [hQ, hE] at hst
  simp only [Bool.false_eq_true, if_false] at hst
  rw [← hst] at t3 o0
  simp (disch := (first | omega | (simp only [ls_, la_, lc_, ln_]; first | done | omega))) only [go_sem, reduceEqDiff, ↓reduceIte, t5, aq_]
  exact ⟨4 - (j + 1), by omega, hJ2 _ _ _ ⟨j + 1, by simp [upd, t0], by simp [upd, t3], by simp [upd, t4], by simp [upd], mo, o0, rfl, by omega⟩⟩
 ·rw [hQ, hE, if_pos rfl] at hst
  simp (disch := (first | omega | (simp only [ls_, la_, lc_, ln_]; first | done | omega))) only [bl_, bG_, go_sem, reduceEqDiff, Nat.reduceAdd, reduceLeDiff, ↓reduceIte, t3, t4, t5, o0, fM_, Option.map_some, AV.cell, all_cons, all_nil, a0_, jv_, h0_, aq_]
  repeat (refine And.intro (by first | omega | exact gi_ _ | exact jw_ _ | (simp; done)) ?_)
  refine ⟨4 - (j + 1), by omega, hJ2 _ _ _ ⟨j + 1, by simp [upd, t0], by simp [upd, hst], by simp [upd, t4], by simp [upd], ?_, ?_, rfl, by omega⟩⟩
  ·exact (mo.add _).set (Nat.le_refl _)
  ·rw [cd_ (by simp; omega), hst]
def ct_ (S : List Int) (j : Int) (e : Int × Int) : Bool := decide (e.2 = j) && hY_ S e.1
def eH_ (E : List (Int × Int)) (S : List Int) : Int := bg_ (fun j => !E.any (ct_ S j)) S 0
def cD_ (E : List (Int × Int)) : Nat → List Int → List Int → Option (List Int)
 | 0, _, out => some out
 | n + 1, S, out => if 0 ≤ eH_ E S then (match S[(eH_ E S).toNat]? with | some j => cD_ E n (S.eraseIdx (eH_ E S).toNat) (out ++ [j]) | none => none) else none
def fP_ (xs : List ab_) : List Int := aT_ (cW_ (xs.map ab_.Job))
def iH_ (xs : List ab_) : Option (List Int) := cD_ (cu_ ab_.Job bo_ xs) (fP_ xs).length (fP_ xs) []
def bq_ (xs : List ab_) : List Int × Int := if bZ_ xs = true then (match iH_ xs with | some o => (o, 0) | none => ([], 5)) else ([], 1)
theorem hf_ (E : List (Int × Int)) (S : List Int) : eH_ E S = -1 ∨ ∃ k, k < S.length ∧ eH_ E S = (k : Int) := by
 rcases is_ (fun j => !E.any (ct_ S j)) S 0 with ⟨h, _⟩ | ⟨i, hi, h, _⟩
 ·exact .inl h
 ·exact .inr ⟨i, hi, by rw [eH_, h, Nat.zero_add]⟩
theorem lw_ {E : List (Int × Int)} {S out : List Int} {n k : Nat} (hn : S.length = n + 1) (hk : k < S.length) (h : eH_ E S = (k : Int)) : cD_ E S.length S out = cD_ E (S.eraseIdx k).length (S.eraseIdx k) (out ++ [S[k]]) := by
 have e : (S.eraseIdx k).length = n := by rw [length_eraseIdx_of_lt hk]; omega
 rw [e, hn, cD_, h, if_pos (by omega)]
 simp only [Int.toNat_natCast]
 rw [getElem?_eq_getElem hk]
theorem kZ_ {E : List (Int × Int)} {S out : List Int} (hS : 0 < S.length) (h : eH_ E S = -1) : cD_ E S.length S out = none := by
 obtain ⟨n, hn⟩ : ∃ n, S.length = n + 1 := ⟨S.length - 1, by omega⟩
 rw [hn, cD_, h, if_neg (by omega)]
theorem rj_ (E : List (Int × Int)) : ∀ (n : Nat) (S out : List Int) (o : List Int), cD_ E n S out = some o → o.length = out.length + n
 | 0, S, out, o, h => by simp only [cD_, Option.some.injEq] at h; rw [← h]; rfl
 | n + 1, S, out, o, h => by
  rw [cD_] at h
  split at h
  ·split at h
   ·have := rj_ E n _ _ _ h
    rw [la_, length_singleton] at this; omega
   ·cases h
  ·cases h
def eX_ (r : List Int × Int) : AV := .tup [.list 0 1 (ao_ r.1), .val (.int .i64 r.2)]
theorem iG_ (xs : List ab_) : (fP_ xs).length ≤ xs.length := by
 have := iw_ (cW_ (xs.map ab_.Job))
 rw [gR_, length_map] at this
 exact this
theorem sL_ {xs : List ab_} (hs : aI_ ab_.sz xs ≤ 1048576) : aI_ (fun _ : Int => 0) (bq_ xs).1 ≤ 1048576 := by
 have h1 := iG_ xs
 have h2 := bz_ hs
 rw [oB_]
 unfold bq_
 split
 ·split
  ·rename_i o h
   have := rj_ _ _ _ _ _ h
   simp only [ln_] at this
   show o.length ≤ _
   omega
  ·simp
 ·simp
theorem jH_ {xs : List ab_} (h : bZ_ xs = false) : eX_ (bq_ xs) = .tup [.list 0 1 [], .val (.int .i64 1)] := by
 rw [bq_, h]; rfl
theorem f2_ {xs : List ab_} (h : bZ_ xs = true) (h2 : iH_ xs = none) : eX_ (bq_ xs) = .tup [.list 0 1 [], .val (.int .i64 5)] := by
 rw [bq_, if_pos h, h2]; rfl
theorem iu_ {xs : List ab_} {o : List Int} (h : bZ_ xs = true) (h2 : iH_ xs = some o) : eX_ (bq_ xs) = .tup [.list 0 1 (ao_ o), .val (.int .i64 0)] := by
 rw [bq_, if_pos h, h2]; rfl
theorem tB_ (p : Int → Bool) (S : List Int) (i : Nat) (h : i < S.length) : bg_ p (S.drop i) i = if p S[i] then (i : Int) else bg_ p (S.drop (i + 1)) (i + 1) := dw_ p S i h
def c30 : LC :=
 .q [.o [.ki 4 0], .q [.o [.ki 5 0], .block 0 (.loop (.q [.q [.o [.m 8 5, .m 9 0, .ll 10 9, .bb 11 .lss false 8 10], .k 11 .skip (.exit 0)], .block 1 (.q [.o [.t 6], .q [.o [.ki 7 0], .block 2 (.loop (.q [.q [.o [.m 14 7,
 .m 15 1, .ll 16 15, .bb 17 .lss false 14 16], .k 17 .skip (.exit 2)], .block 3 (.dops [.m 20 6, .m 21 20, .gm 22 21 true 1, .gm 23 21 true 7, .g 24 21 true (.indexAddr 2 (.tmp 22) (.tmp 23)), .gf 25 21 true 1 24, .gn 26
 21 true 25, .gm 27 21 true 0, .gm 28 21 true 5, .g 29 21 true (.indexAddr 1 (.tmp 27) (.tmp 28)), .gn 30 21 true 29, .g 31 21 true (.bin .eql false (.tmp 26) (.tmp 30)), .gm 32 21 true 31, .gm 33 32 true 0, .gm 34 32
 true 1, .gm 35 32 true 7, .g 36 32 true (.indexAddr 2 (.tmp 34) (.tmp 35)), .gf 37 32 true 0 36, .gn 38 32 true 37, .g 39 32 true (.call 55 [.tmp 33, .tmp 38]), .g 40 21 true (.pick (.tmp 32) (.tmp 39) (.const (.bool
 false))), .gu 41 21 true 40, .pf 42 21 41, .m 6 42]), .o [.m 18 7, .bk 19 .add false 18 1, .m 7 19]]))], .o [.m 43 6], .k 43 (.q [.o [.m 44 5, .m 4 44], .ret]) .skip]), .o [.m 12 5, .bk 13 .add false 12 1, .m 5 13]]))],
 .o [.s 4 (.mov (.const (.int .i64 (-1))))], .ret]
def uF_ : LF := ⟨2, 45, c30, [.tmp 4]⟩
theorem w4_ : av_ Tryz.prog Tryz.f30 uF_ := am_
def c29 : LC :=
 .q [.o [.nl 2], .o [.s 5 (.buildSlice 2 1 (.int .i64 0) 0 []), .m 3 5], .q [.o [.ki 4 0], .block 0 (.loop (.q [.q [.o [.m 6 4, .m 7 0, .ll 8 7, .bb 9 .lss false 6 8], .k 9 .skip (.exit 0)], .block 1 (.o [.m 12 3, .m 13
 0, .m 14 4, .ia 15 6 13 14, .fa 16 0 15, .ln 17 16, .c2 18 54 12 17, .m 3 18]), .o [.m 10 4, .bk 11 .add false 10 1, .m 4 11]]))], .o [.m 19 3, .m 2 19], .ret]
def ul_ : LF := ⟨1, 20, c29, [.tmp 2]⟩
theorem xx_ : av_ Tryz.prog Tryz.f29 ul_ := am_
theorem kV_ (S : List Int) (E : List (Int × Int)) (hS1 : S.length ≤ 1048576) (hE1 : E.length ≤ 1048576) (h : List Row) : aa_ Tryz.prog 30 [.list 0 1 (ao_ S), .list 0 2 (aD_ E)] h (.val (.int .i64 (eH_ E S))) := by
 refine ap_ mixed Tryz.func30 w4_ rfl rfl ?_ h
 simp (disch := omega) only [uF_, c30, go_sem, Int.reduceNeg]
 refine aB_ (fun m t h => ∃ (i : Nat), t 0 = .list 0 1 (ao_ S) ∧ t 1 = .list 0 2 (aD_ E) ∧ t 5 = .val (.int .i64 i) ∧ m = S.length - i ∧ i ≤ S.length ∧ eH_ E S = bg_ (fun j => !E.any (ct_ S j)) (S.drop i) i) S.length ⟨0, rfl, rfl, rfl, rfl, Nat.zero_le _, rfl⟩ ?_
 rintro J hJ m t h ⟨i, t0, t1, t5, rfl, hi, hS⟩
 by_cases hlt : i < S.length
 case neg =>
  simp (disch := omega) only [t0, t5, hlt, aS_, go_sem, reduceEqDiff, reduceCtorEq, Int.reduceNeg, ↓reduceIte]
  refine aC_ ?_
  rw [hS, b8_ _ _ _ (by omega)]
 rw [tB_ _ S i hlt] at hS
 have hg := cc_ S i hlt
 simp (disch := omega) only [t0, t5, hlt, aS_, go_sem, reduceEqDiff, reduceCtorEq, Int.reduceNeg, ↓reduceIte]
 refine aB_ (fun m t h => ∃ (k : Nat), t 0 = .list 0 1 (ao_ S) ∧ t 1 = .list 0 2 (aD_ E) ∧ t 5 = .val (.int .i64 i) ∧ t 6 = .val (.bool (!(E.take k).any (ct_ S S[i]))) ∧ t 7 = .val (.int .i64 k) ∧ m = E.length - k ∧ k ≤ E.length) E.length ⟨0, by simp [upd, t0], by simp [upd, t1], by simp [upd, t5], by simp [upd], by simp [upd], rfl, Nat.zero_le _⟩ ?_
 clear t0 t1 t5
 rintro J2 hJ2 m t h ⟨k, t0, t1, t5, t6, t7, rfl, hk⟩
 by_cases hlk : k < E.length
 case neg =>
  have e : k = E.length := by omega
  subst e
  rw [take_length] at t6
  cases hf : E.any (ct_ S S[i])
  ·rw [hf] at t6 hS
   simp (disch := omega) only [t1, t5, t6, t7, hlk, Bool.not_false, a0_, go_sem, reduceEqDiff, Int.reduceNeg, ↓reduceIte]
   refine aC_ ?_
   rw [hS]; rfl
  ·rw [hf] at t6 hS
   simp (disch := omega) only [t1, t5, t6, t7, hlk, Bool.not_true, a0_, aq_, go_sem, reduceEqDiff, Int.reduceNeg, ↓reduceIte]
   exact ⟨S.length - (i + 1), by omega, hJ _ _ _ ⟨i + 1, by simp [upd, t0], by simp [upd, t1], by simp [upd], rfl, by omega, by rw [hS]; rfl⟩⟩
 have hgk := dG_ E k hlk
 have htk : (E.take (k + 1)).any (ct_ S S[i]) = ((E.take k).any (ct_ S S[i]) || ct_ S S[i] E[k]) := by
  rw [take_succ_eq_append_getElem hlk, any_append]; simp
 have next : ∀ (b : Bool) t' h', b = (!(E.take (k + 1)).any (ct_ S S[i])) → t' 0 = .list 0 1 (ao_ S) → t' 1 = .list 0 2 (aD_ E) → t' 5 = .val (.int .i64 i) → t' 6 = .val (.bool b) → t' 7 = .val (.int .i64 (k + 1 : Nat)) → ∃ m, m < E.length - k ∧ J2 m t' h' := by
  intro b t' h' hb e0 e1 e5 e6 e7
  exact ⟨E.length - (k + 1), by omega, hJ2 _ _ _ ⟨k + 1, e0, e1, e5, by rw [e6, hb], e7, rfl, by omega⟩⟩
 cases hc : (E.take k).any (ct_ S S[i])
 ·rw [hc] at t6 htk
  simp only [Bool.not_false] at t6
  by_cases h2 : E[k].2 = S[i]
  ·have h2' : (E[k].2 = S[i]) = True := eq_true h2
   simp (disch := omega) only [t0, t1, t5, t6, t7, hlk, hg, hgk, h2', a0_, aq_, go_sem, reduceEqDiff, Nat.reduceAdd, reduceLeDiff, reduceCtorEq, Int.reduceNeg, ↓reduceIte]
   have hh : aa_ Tryz.prog 55 [.list 0 1 (ao_ S), .val (.int .i64 E[k].1)] h (.val (.bool (hY_ S E[k].1))) := fu_ S E[k].1 hS1 h
   first | refine aa_.q (fu_ S E[k].1 hS1 _) ?_ | refine aa_.call (fu_ S E[k].1 hS1 _) ?_ | refine aa_.q hh ?_
   simp (disch := omega) only [go_sem]
   refine next (!hY_ S E[k].1) _ _ ?_ (by simp [upd, t0]) (by simp [upd, t1]) (by simp [upd, t5]) (by simp [upd]) (by simp [upd])
   rw [htk]; simp [ct_, h2]
  ·have h2' : (E[k].2 = S[i]) = False := eq_false h2
   simp (disch := omega) only [t0, t1, t5, t6, t7, hlk, hg, hgk, h2', a0_, aq_, go_sem, reduceEqDiff, Nat.reduceAdd, reduceLeDiff, reduceCtorEq, Int.reduceNeg, ↓reduceIte]
   refine next true _ _ ?_ (by simp [upd, t0]) (by simp [upd, t1]) (by simp [upd, t5]) (by simp [upd]) (by simp [upd])
   rw [htk]; simp [ct_, h2]
 ·rw [hc] at t6 htk
  simp only [Bool.not_true] at t6
  simp (disch := omega) only [t1, t6, t7, hlk, a0_, aq_, go_sem, reduceEqDiff, Int.reduceNeg, ↓reduceIte]
  refine next false _ _ ?_ (by simp [upd, t0]) (by simp [upd, t1]) (by simp [upd, t5]) (by simp [upd]) (by simp [upd])
  rw [htk]; simp
theorem sM_ {out : List Int} {E : Tag} {L : Nat} {H : List Row} {z : Int} {K : AV → List Row → Prop} (hL : H[L]? = some ⟨E, 1, ao_ out⟩) (ho : out.length ≤ 4000000) (hk : ∀ H' L' E', bd_ H H' → H.length ≤ L' → H'[L']? = some ⟨E', 1, ao_ (cx_ out z)⟩ → K (.own L' (cx_ out z).length) H') : callSem Tryz.prog 54 [.own L out.length, .val (.int .i64 z)] H K := by
 refine qL_ (n := 2) (ji_ out z ho) (l6_ (gr_ hL (aS_ _) (fL_ _)) (h1_ rfl)) ?_
 rintro av hn hf ⟨l', k', rfl⟩
 obtain ⟨hb, rfl, E', hl'⟩ := hf.ints
 exact hk _ l' E' (bd_.app _ _) hb hl'
theorem iO_ (xs : List ab_) (hs : aI_ ab_.sz xs ≤ 1048576) : bh_ Tryz.prog 29 [.list 0 6 (xs.map ab_.cells)] (.list 0 1 (ao_ (fP_ xs))) (fun a => ∃ l n, a = .own l n) := by
 refine fT_ mixed Tryz.func29 xx_ rfl (fun h0 => ?_)
 have hx := bz_ hs
 simp (disch := (first | omega | (simp only [ls_, la_, lc_, ln_]; first | done | omega))) only [go_sem, ↓reduceIte, ul_, c29]
 refine aB_ (fun m t h => ∃ (k : Nat) (out : List Int) (L : Nat) (E : Tag), t 0 = .list 0 6 (xs.map ab_.cells) ∧ t 3 = .own L out.length ∧ t 4 = .val (.int .i64 k) ∧ bd_ h0 h ∧ h[L]? = some ⟨E, 1, ao_ out⟩ ∧ h0.length ≤ L ∧ m = xs.length - k ∧ k ≤ xs.length ∧ out.length ≤ k ∧ fP_ xs = ((xs.drop k).map ab_.Job).foldl cx_ out) xs.length ⟨0, [], h0.length, 2, rfl, rfl, rfl, bd_.app _ _, bG_ rfl, Nat.le_refl _, rfl, Nat.zero_le _, Nat.le_refl _, rK_ _⟩ ?_
 rintro J hJ m t h ⟨k, out, L, E, t0, t3, t4, mo, oL, hL, rfl, hk, ho, hS⟩
 by_cases hlt : k < xs.length
 ·simp (disch := (first | omega | (simp only [ls_, la_, lc_, ln_]; first | done | omega))) only [go_sem, reduceEqDiff, Nat.reduceAdd, reduceCtorEq, ↓reduceIte, t0, t3, t4, hlt, fy_]
  refine sM_ oL (by omega) (fun H' L' E' m' hl' o' => ?_)
  have hp := m2_ out xs[k].Job
  have ml := mo.len
  simp (disch := (first | omega | (simp only [ls_, la_, lc_, ln_]; first | done | omega))) only [go_sem, reduceEqDiff, ↓reduceIte, t4, aq_]
  refine ⟨xs.length - (k + 1), by omega, hJ _ _ _ ⟨k + 1, _, L', E', by simp [upd, t0], by simp [upd], by simp [upd], mo.trans m', o', by omega, rfl, by omega, by omega, ?_⟩⟩
  rw [hS, drop_eq_getElem_cons hlt]; rfl
 ·rw [drop_eq_nil_of_le (show xs.length ≤ k by omega)] at hS
  simp (disch := (first | omega | (simp only [ls_, la_, lc_, ln_]; first | done | omega))) only [go_sem, reduceEqDiff, reduceCtorEq, ↓reduceIte, t0, t3, t4, hlt]
  rw [hS]
  exact ⟨⟨mo, (bP_.ofInts oL hL).b⟩, _, _, rfl⟩
theorem oL_ {lo l : Nat} {H : List Row} {E : Tag} (hl : H[l]? = some ⟨E, 1, []⟩) (h1 : lo ≤ l) : az_ lo H.length H (.own l 0) (.list 0 1 []) := (bP_.ofInts (zs := []) hl h1).b
theorem qw_ (S : List Int) (k : Nat) : List.take k (ao_ S) ++ List.drop (k + 1) (List.take S.length (ao_ S)) = ao_ (S.eraseIdx k) := by
 rw [take_of_length_le (l := ao_ S) (Nat.le_of_eq (aS_ S)), fI_, oG_, dJ_, eraseIdx_eq_take_drop_succ]
theorem qQ_ {S : List Int} {k : Nat} : ∀ e ∈ List.take k (ao_ S), e.all AV.cell = true := fun e he => dg_ _ e (mem_of_mem_take he)
theorem rv_ {S : List Int} {j k : Nat} : ∀ e ∈ List.drop j (List.take k (ao_ S)), e.all AV.cell = true := fun e he => dg_ _ e (mem_of_mem_take (mem_of_mem_drop he))
def c14 : LC :=
 .q [.o [.nl 2, .ki 3 0], .q [.o [.m 9 0, .c1 10 20 9, .nt 11 10], .k 11 (.q [.o [.s 12 (.buildSlice 2 1 (.int .i64 0) 0 []), .m 2 12, .ki 3 1], .ret]) .skip], .o [.m 13 0, .c1 14 29 13, .m 4 14], .o [.m 15 0, .c1 16 21
 15, .m 5 16], .o [.s 17 (.buildSlice 2 1 (.int .i64 0) 0 []), .m 6 17], .block 0 (.loop (.q [.q [.o [.m 18 4, .ll 19 18, .bk 20 .gtr false 19 0], .k 20 .skip (.exit 0)], .block 1 (.q [.o [.m 21 4, .m 22 5, .c2 23 30 21
 22, .m 7 23], .q [.o [.m 24 7, .bk 25 .lss false 24 0], .k 25 (.q [.o [.s 26 (.buildSlice 2 1 (.int .i64 0) 0 []), .m 2 26, .ki 3 5], .ret]) .skip], .o [.m 27 6, .m 28 4, .m 29 7, .ia 30 1 28 29, .ln 31 30, .s 32
 (.buildSlice 2 1 (.int .i64 0) 1 [(0, .tmp 31)]), .ap 33 2 1 8 27 32, .m 6 33], .o [.s 34 (.buildSlice 2 1 (.int .i64 0) 0 []), .m 35 4, .m 36 7, .s 37 (.sliceSl 1 (.tmp 35) none (some (.tmp 36))), .ap 38 2 1 8 34 37, .m
 8 38], .o [.m 39 8, .m 40 4, .m 41 7, .bk 42 .add false 41 1, .s 43 (.sliceSl 1 (.tmp 40) (some (.tmp 42)) none), .ap 44 2 1 8 39 43, .m 4 44]])])), .o [.m 45 6, .m 2 45, .ki 3 0], .ret]
def vx_ : LF := ⟨1, 46, c14, [.tmp 2, .tmp 3]⟩
theorem wT_ : av_ Tryz.prog Tryz.f14 vx_ := am_
theorem hw_ (xs : List ab_) (hs : aI_ ab_.sz xs ≤ 1048576) : bh_ Tryz.prog 14 [.list 0 6 (xs.map ab_.cells)] (eX_ (bq_ xs)) (fun a => ∃ b q, a = .tup [b, .val (.int .i64 q)]) := by
 refine fT_ mixed Tryz.func14 wT_ rfl (fun h0 => ?_)
 simp (disch := (first | omega | (simp only [ls_, la_, lc_, ln_]; first | done | omega))) only [go_sem, reduceCtorEq, ↓reduceIte, vx_, c14]
 refine aa_.call (jM_ xs hs _) ?_
 cases q : bZ_ xs
 ·simp (disch := (first | omega | (simp only [ls_, la_, lc_, ln_]; first | done | omega))) only [go_sem, Nat.reduceEqDiff, ↓reduceIte]
  rw [jH_ q]
  exact ⟨⟨bd_.app _ _, az_.pair (oL_ (bG_ rfl) (Nat.le_refl _)) (by simp) _⟩, _, _, rfl⟩
 have hd := hs_ q
 have hx := bz_ hs
 simp (disch := (first | omega | (simp only [ls_, la_, lc_, ln_]; first | done | omega))) only [go_sem, reduceCtorEq, ↓reduceIte]
 refine fJ_ (iO_ xs hs) ?_
 rintro av H1 m1 F1 ⟨L0, n0, rfl⟩
 obtain ⟨hL0, rfl, E0, o0⟩ := F1.tree.fresh.ints
 simp (disch := (first | omega | (simp only [ls_, la_, lc_, ln_]; first | done | omega))) only [go_sem, reduceCtorEq, ↓reduceIte]
 refine fJ_ (iB_ xs hs hd.2.1 hd.2.2) ?_
 rintro av H2 m2 F2 ⟨LE, nE, rfl⟩
 have l1 := m1.len
 have l2 := m2.len
 have o1 := m2.at o0
 have hl0 := (List.getElem?_eq_some_iff.1 o0).1
 have hjl := iG_ xs
 have hel := kP_ xs
 simp (disch := (first | omega | (simp only [ls_, la_, lc_, ln_]; first | done | omega))) only [go_sem, ↓reduceIte]
 refine aB_ (fun m t h => ∃ (S out : List Int) (L : Nat) (EL : Tag), t 4 = .own L S.length ∧ t 5 = .own LE nE ∧ t 6 = .own H2.length out.length ∧ bd_ H2 h ∧ h[L]? = some ⟨EL, 1, ao_ S⟩ ∧ h0.length ≤ L ∧ L ≠ H2.length ∧ h[H2.length]? = some ⟨.ty 2, 1, ao_ out⟩ ∧ m = S.length ∧ S.length + out.length ≤ 60 ∧ iH_ xs = cD_ (cu_ ab_.Job bo_ xs) S.length S out) (fP_ xs).length ⟨fP_ xs, [], L0, E0, rfl, rfl, rfl, bd_.app _ _, oP_ o1, hL0, by omega, bG_ rfl, rfl, by simp; omega, rfl⟩ ?_
 rintro J hJ m t h ⟨S, out, L, EL, t4, t5, t6, mo, oL, hL, hLM, oM, rfl, hlen, hS⟩
 have hll := (List.getElem?_eq_some_iff.1 oL).1
 have hlm := (List.getElem?_eq_some_iff.1 oM).1
 by_cases hp : 0 < S.length
 case neg =>
  have e : S = [] := eq_nil_of_length_eq_zero (by omega)
  subst e
  have hz : ((0 : Int) < (([] : List Int).length : Int)) = False := eq_false (by simp)
  simp (disch := (first | omega | (simp only [ls_, la_, lc_, ln_]; first | done | omega))) only [go_sem, Nat.reduceEqDiff, Int.reduceLT, ↓reduceIte, t4, t6, oL, aS_]
  rw [iu_ q hS]
  exact ⟨⟨(m1.trans m2).trans mo, az_.pair (bP_.ofInts oM (by omega)).b (by omega) _⟩, _, _, rfl⟩
 have hz : ((0 : Int) < (S.length : Int)) = True := eq_true (by omega)
 have hcall : ∀ t' : Nat, aa_ Tryz.prog 30 [.own L S.length, .own LE nE] h (.val (.int .i64 (eH_ (cu_ ab_.Job bo_ xs) S))) := fun _ =>
  aa_.anyR rfl (fun h => kV_ S (cu_ ab_.Job bo_ xs) (by omega) (by omega) h) (.cons (.res (n := 2) (gr_ oL (aS_ _) (fL_ _))) (.cons (F2.tree.keep (fun y _ hy => mo.kept y hy)).arg.any .nil))
 simp (disch := (first | omega | (simp only [ls_, la_, lc_, ln_]; first | done | omega))) only [go_sem, Nat.reduceEqDiff, ↓reduceIte, t4, t5, oL, hz, aS_]
 refine aa_.call (hcall 0) ?_
 rcases hf_ (cu_ ab_.Job bo_ xs) S with hf | ⟨k, hk, hf⟩
 ·rw [hf]
  simp (disch := (first | omega | (simp only [ls_, la_, lc_, ln_]; first | done | omega))) only [go_sem, Nat.reduceEqDiff, Int.reduceNeg, ↓reduceIte]
  rw [f2_ q (by rw [hS, kZ_ hp hf])]
  exact ⟨⟨((m1.trans m2).trans mo).trans (bd_.app _ _), az_.pair (oL_ (bG_ rfl) (by omega)) (by simp; omega) _⟩, _, _, rfl⟩
 rw [hf]
 have hneg : ((k : Int) < 0) = False := eq_false (by omega)
 obtain ⟨n, hn⟩ : ∃ n, S.length = n + 1 := ⟨S.length - 1, by omega⟩
 have hg := cc_ S k hk
 have hk1 : ((k : Int) + 1).toNat = k + 1 := by omega
 have hkle : k ≤ S.length := by omega
 have hkle1 : k + 1 ≤ S.length := by omega
 have hmid : k + (S.length - (k + 1)) = S.length - 1 := by omega
 simp (disch := (first | omega | (simp only [ls_, la_, lc_, ln_]; first | done | omega))) only [bn_, cd_, bl_, bG_, ls_, go_sem, Nat.reduceEqDiff, Nat.reduceLeDiff, ↓reduceIte, t4, t6, oL, oM, hneg, hg, hk, hk1, hkle, hkle1, hmid, aS_, eJ_, dJ_, nil_append, la_, length_take, length_drop, Nat.min_eq_left, Nat.zero_add, aq_]
 repeat (refine And.intro (by first | omega | exact eo_ _ | exact dg_ _ | exact qQ_ | exact rv_ | (simp; done)) ?_)
 have hel2 : (S.eraseIdx k).length = S.length - 1 := length_eraseIdx_of_lt hk
 refine ⟨(S.eraseIdx k).length, by omega, hJ _ _ _ ⟨S.eraseIdx k, out ++ [S[k]], h.length + 1, 2, by simp [upd, hel2], by simp [upd, t5], by simp [upd], ?_, ?_, ?_, ?_, ?_, rfl, by rw [la_, length_singleton]; omega, by rw [hS, lw_ hn hk hf]⟩⟩
 ·exact (((((mo.add _).set (Nat.le_refl _)).add _).set (by omega)).set (by omega))
 ·rw [cd_ (by simp), qw_]; rfl
 ·omega
 ·omega
 ·rw [bn_ (by omega), bn_ (by omega), bl_ (by simp; omega), cd_ (by simp; omega)]
theorem fr_ (xs : List ab_) (hs : aI_ ab_.sz xs ≤ 1048576) (h : List Row) : aa_ Tryz.prog 14 [.list 0 6 (xs.map ab_.cells)] h (eX_ (bq_ xs)) := (hw_ xs hs).pure rfl h
end Go.Proofs.YtddmifalinefnaaGreatDoor
