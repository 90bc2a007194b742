/-
 Contracts of functions. Conditions: as each theorem says.
-/
import Derived.Test.YtddmifalinefnaaGreatDoorFnKA
import Derived.Test.YtddmifalinefnaaGreatDoorAwBits
import Derived.Test.YtddmifalinefnaaGreatDoorFnEB
import Derived.Test.YtddmifalinefnaaGreatDoorAwC
namespace Go.Proofs.YtddmifalinefnaaGreatDoor
open List
open Go.AW
set_option linter.unusedVariables false
set_option linter.unusedSimpArgs false
set_option maxRecDepth 4000
open Nat (reduceEqDiff reduceLeDiff)
open Tryz (prog)
abbrev iY_ (b : Nat) : AV := .val (.pointer (some ⟨b, 0, none⟩))
theorem jr_ {b : Nat} {l : List UInt8} {c : UInt8} {K : AV → Bd → Prop} (hlen : l.length + 1 ≤ 140737488355328) (hk : K (.val .nilIface) (some (b, l ++ [c]))) : eL_ Tryz.prog 136 5 146 [iY_ b, .val (.int .u8 c.toNat)] (some (b, l)) K :=
 hT_ (vals := [.int .u8 c.toNat]) (r := .nilIface) (new := [c]) (fun B w h hB => (Any.Builder_WriteByte_k Tryz.lays167 Tryz.Builder_Extra_167 B b (Lib.byteCells l) c.toNat w h (by rw [Lib.byteCells_length]; exact hlen) hB).mono (by
  rintro en w' ⟨rfl, h1, h2, _⟩
  refine ⟨rfl, .inr ?_, h2⟩
  have e : Lib.byteCells (l ++ [c]) = Lib.byteCells l ++ [.int .u8 c.toNat] := by simp [Lib.byteCells]
  rw [e]; exact h1)) hk
theorem uu_ {b : Nat} {l s : List UInt8} {K : AV → Bd → Prop} (hlen : l.length + s.length ≤ 140737488355328) (hk : ∀ r : Value, K (.val r) (some (b, l ++ s))) : eL_ Tryz.prog 136 5 158 [iY_ b, .val (.string (txt s))] (some (b, l)) K :=
 hT_ (vals := [.string (txt s)]) (r := .tuple #[.int .i64 (txt s).size, .nilIface]) (new := s) (fun B w h hB => (Any.Builder_WriteString_k Tryz.lays166 Tryz.Builder_Extra_166 B b (Lib.byteCells l) (txt s) w h (by rw [Lib.byteCells_length, ce_]; exact hlen) hB).mono (by
  rintro en w' ⟨rfl, h1, h2, _⟩
  refine ⟨rfl, .inr ?_, h2⟩
  have e : Lib.byteCells (l ++ s) = Lib.byteCells l ++ Lib.strCells (txt s) := by simp [Lib.byteCells, Lib.strCells, txt]
  rw [e]; exact h1)) (hk _)
theorem r9_ {b : Nat} {l : List UInt8} {K : AV → Bd → Prop} (hk : K (.val (.string (txt l))) (some (b, l))) : eL_ Tryz.prog 136 5 147 [iY_ b] (some (b, l)) K := by
 refine hT_ (vals := []) (r := .string (txt l)) (new := []) (fun B w h hB => (Any.Builder_String_any_k Tryz.lays169 Tryz.Builder_Extra_169 B b l w h hB).mono (by
  rintro en w' ⟨rfl, h1, h2, _⟩
  refine ⟨rfl, ?_, h2⟩
  rw [append_nil]; exact h1)) (by rw [append_nil]; exact hk)
theorem g0_ (s : List UInt8) (hs : s.length ≤ 1048576) (h : List Row) : aa_ Tryz.prog 159 [.val (.string (txt s)), .val (.string (txt [0])), .val (.string (txt [0, 255]))] h (.val (.string (txt (esc s)))) := by
 refine nc_ (vals := [.string (txt s), .string (txt [0]), .string (txt [0, 255])]) (fun w hM => ?_) h
 obtain ⟨m, hm⟩ := hM (Tryz.lays155_ren.g 1) (by kernel_rfl)
 have hc : Lib.countB (txt s) (txt [0]) ≤ s.length := by
  show Lib.count (txt s).data.toList (txt [0]).data.toList ≤ _
  rw [bs_, bs_, Lib.count_one]; exact count_le_length
 have := Any.strings_ReplaceAll Tryz.lays155 Tryz.Builder_Extra_155 (txt s) (txt [0]) (txt [0, 255]) m w (by rw [ce_]; omega) hm (by rw [ce_]; decide) (by rw [ce_, ce_]; simp only [lc_, ln_]; omega)
 rw [bs_, bs_, bs_, kf_] at this
 exact this
theorem sH_ (n k : Nat) (h : k < (be8 n).length) : (be8 n)[k] = cn_ n (7 - k) := by
 rw [cQ_] at h
 rcases (by omega : k = 0 ∨ k = 1 ∨ k = 2 ∨ k = 3 ∨ k = 4 ∨ k = 5 ∨ k = 6 ∨ k = 7) with e | e | e | e | e | e | e | e <;> subst e <;> rfl
theorem mP_ (n k : Nat) (h : k < 8) : (be8 n).take (k + 1) = (be8 n).take k ++ [cn_ n (7 - k)] := by
 rw [take_succ_eq_append_getElem (by rw [cQ_]; exact h), sH_]
theorem nG_ (n k : Nat) (h : k = 8) : (be8 n).take k = be8 n := by subst h; rfl
theorem tO_ (n k : Nat) (h : k < 8) : IntKind.u8.wrap ((n : Int).fdiv (2 ^ min (56 - 8 * (k : Int)).toNat 64)) = ((cn_ n (7 - k)).toNat : Int) := by
 have e : (56 - 8 * (k : Int)).toNat = (8 * ((7 - k : Nat) : Int)).toNat := by omega
 rw [e, mb_ _ _ (by omega), jM_]
def tn_ : LC :=
 .q [.q [.o [.m 6 1, .c1 7 156 6], .k 7 (.q [.o [.m 8 1, .c1 9 157 8, .bk 10 .add false 9 1000000000000000000, .s 11 (.convInt .u64 (.tmp 10)), .m 4 11], .o [.m 12 0, .s 13 (.call 146 [.tmp 12, .const (.int .u8 1)])], .q
 [.o [.ki 5 56], .block 0 (.loop (.q [.q [.o [.m 14 5, .bk 15 .geq false 14 0], .k 15 .skip (.exit 0)], .block 1 (.o [.m 18 0, .m 19 4, .m 20 5, .bb 21 .shr false 19 20, .s 22 (.convInt .u8 (.tmp 21)), .c2 23 146 18 22]),
 .o [.m 16 5, .bk 17 .sub false 16 8, .m 5 17]]))], .ret]) .skip], .o [.m 24 0, .s 25 (.call 146 [.tmp 24, .const (.int .u8 2)])], .o [.m 26 0, .m 27 1, .s 28 (.call 159 [.tmp 27, .const (.string ⟨#[0]⟩), .const (.string
 ⟨#[0, 255]⟩)]), .c2 29 158 26 28], .o [.m 30 0, .s 31 (.call 158 [.tmp 30, .const (.string ⟨#[0, 0]⟩)])]]
def rT_ : LF := ⟨2, 32, tn_, []⟩
theorem uK_ : av_ Tryz.prog Tryz.f148 rT_ := ap_
theorem lv_ {b : Nat} {l : List UInt8} {s : ByteArray} (hs : s.size ≤ 1048576) (hl : l.length ≤ 1000000000) {K : AV → Bd → Prop} (hk : K (.tup []) (some (b, l ++ bH_ (bs s)))) : eL_ Tryz.prog 136 5 148 [iY_ b, .val (.string s)] (some (b, l)) K := by
 refine i4_ (by decide) mixed Tryz.func148 uK_ rfl ?_
 simp (disch := omega) only [rT_, tn_, go_sem, ↓reduceIte]
 refine aa_.b rfl (i1_ s hs _) ?_
 have hbl : (bs s).length = s.size := eY_ s
 by_cases q : cP_ (bs s) = true
 ·simp (disch := omega) only [q, go_sem, Nat.reduceEqDiff, ↓reduceIte]
  refine aa_.b rfl (ka_ s hs _) ?_
  have hn := dn_ (bs s)
  have hq := gm_ (bs s)
  have hq2 := gf_ (bs s)
  have hkey : bH_ (bs s) = 1 :: be8 (ci_ (bs s)) := by unfold bH_; rw [if_pos q]
  rw [hkey] at hk
  simp (disch := omega) only [go_sem, reduceCtorEq, ↓reduceIte, aq_, ← hq, mS_]
  refine jr_ (c := 1) (by omega) ?_
  simp (disch := omega) only [go_sem]
  refine i3_ (fun n t σ => ∃ k : Nat, t 0 = iY_ b ∧ t 4 = .val (.int .u64 (ci_ (bs s))) ∧ t 5 = .val (.int .i64 (56 - 8 * k)) ∧ σ = some (b, (l ++ [1]) ++ (be8 (ci_ (bs s))).take k) ∧ n = 8 - k ∧ k ≤ 8) 8 ?_ ?_
  ·exact ⟨0, rfl, rfl, rfl, by simp, rfl, by omega⟩
  ·rintro J hJ n t σ ⟨k, t0, t4, t5, rfl, rfl, hk8⟩
   by_cases h8 : k < 8
   ·have hlt : (0 : Int) ≤ 56 - 8 * k := by omega
    have hlen : ((be8 (ci_ (bs s))).take k).length ≤ 8 := by rw [length_take, cQ_]; omega
    simp (disch := omega) only [t0, t4, t5, hlt, kq_, tO_, go_sem, Nat.reduceEqDiff, reduceCtorEq, ↓reduceIte]
    refine jr_ (by simp only [la_, lc_]; omega) ?_
    simp (disch := omega) only [t5, aq_, go_sem, Nat.reduceEqDiff, ↓reduceIte]
    exact ⟨8 - (k + 1), by omega, hJ _ _ _ ⟨k + 1, by simp [upd, t0], by simp [upd, t4], by simp [upd]; omega, by rw [mP_ _ _ h8]; simp, rfl, by omega⟩⟩
   ·have hlt : ¬ (0 : Int) ≤ 56 - 8 * k := by omega
    simp (disch := omega) only [t5, hlt, go_sem, ↓reduceIte]
    rw [nG_ _ _ (by omega)]
    simpa using hk
 ·have q' : cP_ (bs s) = false := by simpa using q
  have hkey : bH_ (bs s) = 2 :: (esc (bs s) ++ [0, 0]) := by unfold bH_; rw [if_neg q]
  have he := hc_ (bs s)
  rw [hkey] at hk
  simp (disch := omega) only [q', go_sem, reduceCtorEq, ↓reduceIte]
  refine jr_ (c := 2) (by omega) ?_
  simp (disch := omega) only [go_sem, Nat.reduceEqDiff, reduceCtorEq, ↓reduceIte]
  refine aa_.b rfl (by
   have := g0_ (bs s) (by omega) []
   rw [fr_] at this
   exact this) ?_
  simp (disch := omega) only [go_sem, Nat.reduceEqDiff, ↓reduceIte]
  refine uu_ (by simp only [la_, lc_, ln_]; omega) (fun r1 => ?_)
  simp (disch := omega) only [go_sem, reduceCtorEq, ↓reduceIte]
  refine uu_ (by simp only [la_, lc_, ln_]; omega) (fun r2 => ?_)
  simp (disch := omega) only [go_sem]
  simpa using hk
def mL_ (xs : List ByteArray) : List UInt8 := if a5_ xs = true then bW_ (bss xs) else []
theorem l8_ (xs ys : List (List UInt8)) : bW_ (xs ++ ys) = bW_ xs ++ bW_ ys := by simp [bW_]
theorem hA_ {xs : List ByteArray} (h : a5_ xs = true) : xs.length ≤ 4 ∧ ∀ x ∈ xs, 1 ≤ x.size ∧ x.size ≤ 24 := by
 simp only [a5_, Bool.and_eq_true, decide_eq_true_eq, all_eq_true, bp_] at h
 exact ⟨by omega, fun x hx => by have := h.2 x hx; omega⟩
theorem i9_ : ∀ (xs : List ByteArray), (∀ x ∈ xs, x.size ≤ 24) → (bW_ (bss xs)).length ≤ 57 * xs.length
 | [], _ => by simp [bW_, bss]
 | x :: xs, h => by
  have h1 := hI_ (bs x)
  have h2 := i9_ xs (fun y hy => h y (mem_cons_of_mem _ hy))
  have h3 := h x mem_cons_self
  rw [eY_] at h1
  rw [bss, map_cons, kS_, la_, lc_]
  simp only [bss] at h2
  simp only [bs] at h1
  omega
def tP_ : LC :=
 .q [.o [.s 2 (.mov (.const (.string ⟨#[]⟩)))], .q [.o [.m 6 0, .c1 7 76 6, .nt 8 7], .k 8 (.q [.o [.s 2 (.mov (.const (.string ⟨#[]⟩)))], .ret]) .skip], .o [.s 3 (.alloc 136 (.agg #[.pointer none, .slice none 0 0]))], .q
 [.o [.m 9 0, .ll 10 9, .ki 11 0], .block 0 (.loop (.q [.o [.bb 12 .lss false 11 10], .k 12 .skip (.exit 0), .block 1 (.q [.o [.ia 13 1 9 11, .ln 14 13, .m 5 14], .o [.m 15 5, .c2 16 148 3 15]]), .o [.bk 17 .add false 11
 1, .m 11 17]]))], .o [.c1 18 147 3, .m 2 18], .ret]
def rY_ : LF := ⟨1, 19, tP_, [.tmp 2]⟩
theorem tj_ : av_ Tryz.prog Tryz.f129 rY_ := ap_
theorem ju_ (xs : List ByteArray) (hx : xs.length ≤ 1048576) (h : List Row) : aa_ Tryz.prog 129 [.list 0 1 (xs.map az_)] h (.val (.string (txt (mL_ xs)))) := by
 refine hJ_ (T := 136) (e := 5) rfl rfl ?_ h
 refine i4_ (by decide) mixed Tryz.func129 tj_ rfl ?_
 simp (disch := omega) only [rY_, tP_, go_sem, reduceCtorEq, ↓reduceIte]
 refine aa_.b rfl (bL_ xs hx _) ?_
 by_cases q : a5_ xs = true
 case neg =>
  have q' : a5_ xs = false := by simpa using q
  simp (disch := omega) only [q', go_sem, ↓reduceIte]
  rw [mL_, if_neg q]
 obtain ⟨h4, hm⟩ := hA_ q
 have hz : mi_ = .agg #[.pointer none, .slice none 0 0] := rfl
 simp (disch := omega) only [q, ← hz, go_sem, reduceCtorEq, ↓reduceIte]
 refine fun b => ?_
 refine i3_ (fun n t σ => ∃ k : Nat, t 3 = iY_ b ∧ t 9 = .list 0 1 (xs.map az_) ∧ t 10 = .val (.int .i64 xs.length) ∧ t 11 = .val (.int .i64 k) ∧ σ = some (b, bW_ (bss (xs.take k))) ∧ n = xs.length - k ∧ k ≤ xs.length) xs.length ?_ ?_
 ·exact ⟨0, rfl, rfl, rfl, rfl, rfl, rfl, by omega⟩
 ·rintro J hJ n t σ ⟨k, t3, t9, t10, t11, rfl, rfl, hk⟩
  by_cases hlt : k < xs.length
  ·have hl1 := i9_ (xs.take k) (fun x hx' => (hm x (mem_of_mem_take hx')).2)
   have hl2 : (xs.take k).length ≤ 4 := by rw [length_take]; omega
   simp (disch := omega) only [t3, t9, t10, t11, hlt, go_sem, Nat.reduceEqDiff, ↓reduceIte]
   refine lv_ (by have := hm _ (getElem_mem hlt); omega) (by omega) ?_
   simp (disch := omega) only [t11, aq_, go_sem, Nat.reduceEqDiff, ↓reduceIte]
   refine ⟨xs.length - (k + 1), by omega, hJ _ _ _ ⟨k + 1, by simp [upd, t3], by simp [upd, t9], by simp [upd, t10], by simp [upd], ?_, rfl, by omega⟩⟩
   rw [take_succ_eq_append_getElem hlt, bss, bss, map_append, l8_]
   simp [bW_]
  ·simp (disch := omega) only [t3, t10, t11, hlt, go_sem, Nat.reduceEqDiff, ↓reduceIte]
   rw [take_of_length_le (by omega)]
   refine r9_ ?_
   simp (disch := omega) only [go_sem, ↓reduceIte]
   rw [mL_, if_pos q]
def ik_ : Option (List UInt8 × List UInt8) → AV
 | some (t, r) => .tup [.val (.string (txt t)), .val (.string (txt r)), .val (.bool true)]
 | none => .tup [.val (.string (txt [])), .val (.string (txt [])), .val (.bool false)]
def ur_ : LC :=
 .q [.o [.s 2 (.mov (.const (.string ⟨#[]⟩))), .s 3 (.mov (.const (.string ⟨#[]⟩))), .f 4], .o [.s 5 (.alloc 136 (.agg #[.pointer none, .slice none 0 0]))], .q [.o [.ki 6 0], .block 0 (.loop (.q [.q [.o [.m 7 6, .bk 8
 .add false 7 1, .m 9 0, .s 10 (.lenStr (.tmp 9)), .bb 11 .lss false 8 10], .k 11 .skip (.exit 0)], .block 1 (.q [.q [.o [.m 14 0, .m 15 6, .s 16 (.indexStr (.tmp 14) (.tmp 15)), .s 17 (.bin .neq false (.tmp 16) (.const
 (.int .u8 0)))], .k 17 (.q [.o [.m 18 0, .m 19 6, .s 20 (.indexStr (.tmp 18) (.tmp 19)), .c2 21 146 5 20], .exit 1]) .skip], .o [.m 22 0, .m 23 6, .bk 24 .add false 23 1, .s 25 (.indexStr (.tmp 22) (.tmp 24))], .block 2
 (.q [.o [.s 27 (.bin .eql false (.tmp 25) (.const (.int .u8 0))), .m 26 27], .k 26 (.q [.dops [.c1 28 147 5, .m 29 0, .m 30 6, .bk 31 .add false 30 2, .s 32 (.sliceStr (.tmp 29) (some (.tmp 31)) none), .m 2 28, .m 3 32,
 .t 4], .ret]) (.q [.o [.s 34 (.bin .eql false (.tmp 25) (.const (.int .u8 255))), .m 33 34], .k 33 (.q [.o [.s 35 (.call 146 [.tmp 5, .const (.int .u8 0)])], .o [.m 36 6, .bk 37 .add false 36 1, .m 6 37]]) (.q [.o [.s 2
 (.mov (.const (.string ⟨#[]⟩))), .s 3 (.mov (.const (.string ⟨#[]⟩))), .f 4], .ret])])])]), .o [.m 12 6, .bk 13 .add false 12 1, .m 6 13]]))], .o [.s 2 (.mov (.const (.string ⟨#[]⟩))), .s 3 (.mov (.const (.string
 ⟨#[]⟩))), .f 4], .ret]
def rS_ : LF := ⟨1, 38, ur_, [.tmp 2, .tmp 3, .tmp 4]⟩
theorem s4_ : av_ Tryz.prog Tryz.f128 rS_ := ap_
theorem iA_ (l : List UInt8) (hl : l.length ≤ 1048576) (h : List Row) : aa_ Tryz.prog 128 [.val (.string (txt l))] h (ik_ (bF_ l [])) := by
 refine hJ_ (T := 136) (e := 5) (by cases bF_ l [] <;> rfl) rfl ?_ h
 refine i4_ (by decide) mixed Tryz.func128 s4_ rfl ?_
 have hz : mi_ = .agg #[.pointer none, .slice none 0 0] := rfl
 simp (disch := omega) only [rS_, ur_, ← hz, go_sem]
 refine fun b => ?_
 refine i3_ (fun n t σ => ∃ (i : Nat) (acc : List UInt8), t 0 = .val (.string (txt l)) ∧ t 5 = iY_ b ∧ t 6 = .val (.int .i64 i) ∧ σ = some (b, acc) ∧ n = l.length - i ∧ i ≤ l.length ∧ acc.length ≤ i ∧ bF_ l [] = bF_ (l.drop i) acc) l.length ?_ ?_
 ·exact ⟨0, [], rfl, rfl, rfl, rfl, rfl, by omega, Nat.le_refl _, rfl⟩
 ·rintro J hJ n t σ ⟨i, acc, t0, t5, t6, rfl, rfl, hi, hac, hS⟩
  by_cases hlt : i + 1 < l.length
  ·have hlt' : (i : Int) + 1 < l.length := by omega
   have hlt0 : i < l.length := by omega
   have ei : (i : Int) + 1 = ((i + 1 : Nat) : Int) := by omega
   have ei2 : (i : Int) + 2 = ((i + 2 : Nat) : Int) := by omega
   rw [jH_ l acc i hlt] at hS
   by_cases q : l[i] = 0
   ·rw [if_pos q] at hS
    have q' : ((l[i].toNat : Int) = 0) = True := by simp [q]
    by_cases q1 : l[i + 1] = 0
    ·rw [if_pos q1] at hS
     have q1' : ((l[i + 1].toNat : Int) = 0) = True := by simp [q1]
     simp (disch := omega) only [t0, t5, t6, ei, ei2, hlt, q', q1', aq_, go_sem, reduceEqDiff, reduceCtorEq, ↓reduceIte]
     refine ⟨_, r9_ ⟨rfl, rfl⟩, ?_⟩
     rw [hS, take_length]; rfl
    ·rw [if_neg q1] at hS
     have q1' : ((l[i + 1].toNat : Int) = 0) = False := by rw [eq_iff_iff, iff_false]; intro e; exact q1 (UInt8.toNat_inj.1 (by have h2 : (0 : UInt8).toNat = 0 := rfl; omega))
     by_cases q2 : l[i + 1] = 255
     ·rw [if_pos q2] at hS
      have q2' : ((l[i + 1].toNat : Int) = 255) = True := by simp [q2]
      simp (disch := omega) only [t0, t5, t6, ei, hlt, q', q1', q2', aq_, go_sem, reduceEqDiff, reduceCtorEq, ↓reduceIte]
      refine jr_ (c := 0) (by omega) ?_
      simp (disch := omega) only [t6, ei, aq_, go_sem, reduceEqDiff, ↓reduceIte]
      exact ⟨l.length - (i + 2), by omega, hJ _ _ _ ⟨i + 2, acc ++ [0], by simp [upd, t0], by simp [upd, t5], by simp [upd]; omega, rfl, rfl, by omega, by simp; omega, hS⟩⟩
     ·rw [if_neg q2] at hS
      have q2' : ((l[i + 1].toNat : Int) = 255) = False := by rw [eq_iff_iff, iff_false]; intro e; exact q2 (UInt8.toNat_inj.1 (by have h2 : (255 : UInt8).toNat = 255 := rfl; omega))
      simp (disch := omega) only [t0, t6, ei, hlt, q', q1', q2', aq_, go_sem, reduceEqDiff, reduceCtorEq, ↓reduceIte]
      rw [hS]; rfl
   ·rw [if_neg q] at hS
    have q' : ((l[i].toNat : Int) = 0) = False := by rw [eq_iff_iff, iff_false]; intro e; exact q (UInt8.toNat_inj.1 (by have h2 : (0 : UInt8).toNat = 0 := rfl; omega))
    simp (disch := omega) only [t0, t5, t6, ei, hlt, q', aq_, go_sem, reduceEqDiff, reduceCtorEq, ↓reduceIte]
    refine jr_ (c := l[i]) (by omega) ?_
    simp (disch := omega) only [t6, ei, aq_, go_sem, reduceEqDiff, ↓reduceIte]
    exact ⟨l.length - (i + 1), by omega, hJ _ _ _ ⟨i + 1, acc ++ [l[i]], by simp [upd, t0], by simp [upd, t5], by simp [upd]; try omega, rfl, rfl, by omega, by simp; omega, hS⟩⟩
  ·have hlt' : ¬ (i : Int) + 1 < l.length := by omega
   simp (disch := omega) only [t0, t6, hlt', aq_, go_sem, reduceEqDiff, reduceCtorEq, ↓reduceIte]
   rw [hS, kH_ l acc i (by omega)]; rfl
def kh_ (l : List UInt8) : Option (List UInt8 × List UInt8) := if l.length < 8 then none else if 2000000000000000000 < bC_ 0 (l.take 8) then none else some (e7_ ((bC_ 0 (l.take 8) : Int) - 1000000000000000000), l.drop 8)
theorem wk_ (q : Bool) (a : Int) : a8_ .shl q (.val (.int .u64 a)) (.val (.int .u64 8)) = some (.val (.int .u64 (IntKind.u64.wrap (a * 256)))) := by
 rw [nO_ _ _ _ _ _ (by decide)]; rfl
theorem kR_ (l : List UInt8) (k : Nat) (h : k < l.length) : bC_ 0 (l.take (k + 1)) = bC_ 0 (l.take k) * 256 + l[k].toNat := by
 rw [take_succ_eq_append_getElem h, pK_]
theorem io_ (l : List UInt8) (k : Nat) (h : k ≤ 7) : bC_ 0 (l.take k) < 72057594037927936 := by
 have h1 := kD_ (l.take k) 0
 have h2 : (l.take k).length ≤ 7 := by rw [length_take]; omega
 have h3 : 256 ^ (l.take k).length ≤ 256 ^ 7 := Nat.pow_le_pow_right (by decide) h2
 omega
theorem hK_ (l : List UInt8) : bC_ 0 (l.take 8) < 18446744073709551616 := by
 have h1 := kD_ (l.take 8) 0
 have h2 : (l.take 8).length ≤ 8 := by rw [length_take]; omega
 have h3 : 256 ^ (l.take 8).length ≤ 256 ^ 8 := Nat.pow_le_pow_right (by decide) h2
 omega
theorem pc_ (n : Int) : dN_ n = e7_ n := by
 unfold dN_ e7_
 by_cases h : gV_ n = true
 ·rw [if_pos h, if_pos ((fM_ n).1 h)]
 ·rw [if_neg h, if_neg (fun q => h ((fM_ n).2 q))]
def tl_ : LC :=
 .q [.o [.s 2 (.mov (.const (.string ⟨#[]⟩))), .s 3 (.mov (.const (.string ⟨#[]⟩))), .f 4], .q [.o [.m 7 0, .s 8 (.lenStr (.tmp 7)), .bk 9 .lss false 8 8], .k 9 (.q [.o [.s 2 (.mov (.const (.string ⟨#[]⟩))), .s 3 (.mov
 (.const (.string ⟨#[]⟩))), .f 4], .ret]) .skip], .o [.s 5 (.mov (.const (.int .u64 0)))], .q [.o [.ki 10 0], .block 0 (.loop (.q [.o [.bk 11 .lss false 10 8], .k 11 .skip (.exit 0), .block 1 (.q [.o [.m 12 10, .m 6 12],
 .o [.m 13 5, .s 14 (.bin .shl false (.tmp 13) (.const (.int .u64 8))), .m 15 0, .m 16 6, .s 17 (.indexStr (.tmp 15) (.tmp 16)), .s 18 (.convInt .u64 (.tmp 17)), .bb 19 .add false 14 18, .m 5 19]]), .o [.bk 20 .add false
 10 1, .m 10 20]]))], .q [.o [.m 21 5, .s 22 (.bin .gtr false (.tmp 21) (.const (.int .u64 2000000000000000000)))], .k 22 (.q [.o [.s 2 (.mov (.const (.string ⟨#[]⟩))), .s 3 (.mov (.const (.string ⟨#[]⟩))), .f 4], .ret])
 .skip], .dops [.m 23 5, .s 24 (.convInt .i64 (.tmp 23)), .bk 25 .sub false 24 1000000000000000000, .c1 26 145 25, .m 27 0, .s 28 (.sliceStr (.tmp 27) (some (.const (.int .i64 8))) none), .m 2 26, .m 3 28, .t 4], .ret]
def r3_ : LF := ⟨1, 29, tl_, [.tmp 2, .tmp 3, .tmp 4]⟩
theorem tB_ : av_ Tryz.prog Tryz.f127 r3_ := ap_
theorem iy_ (l : List UInt8) (hl : l.length ≤ 1048576) (h : List Row) : aa_ Tryz.prog 127 [.val (.string (txt l))] h (ik_ (kh_ l)) := by
 refine an_ mixed Tryz.func127 tB_ rfl rfl ?_ h
 simp (disch := omega) only [r3_, tl_, go_sem, reduceCtorEq, ↓reduceIte]
 by_cases h8 : (l.length : Int) < 8
 ·simp (disch := omega) only [h8, go_sem, reduceEqDiff, ↓reduceIte]
  rw [kh_, if_pos (by omega)]
  exact ⟨2, rfl⟩
 simp (disch := omega) only [h8, go_sem]
 refine aJ_ (fun n t h => ∃ k : Nat, t 0 = .val (.string (txt l)) ∧ t 5 = .val (.int .u64 (bC_ 0 (l.take k))) ∧ t 10 = .val (.int .i64 k) ∧ h = [] ∧ n = 8 - k ∧ k ≤ 8) 8 ?_ ?_
 ·exact ⟨0, rfl, rfl, rfl, rfl, rfl, by omega⟩
 rintro J hJ n t h ⟨k, t0, t5, t10, rfl, rfl, hk⟩
 by_cases hlt : k < 8
 ·have hkl : k < l.length := by omega
  have hkI : (k : Int) < 8 := by omega
  have hb := io_ l k (by omega)
  have hu := jt_ l[k]
  simp (disch := omega) only [t0, t5, t10, hkI, wk_, qB_, mS_, aq_, go_sem, reduceEqDiff, reduceCtorEq, ↓reduceIte]
  exact ⟨8 - (k + 1), by omega, hJ _ _ _ ⟨k + 1, by simp [upd, t0], by simp only [upd]; rw [kR_ l k hkl]; simp, by simp [upd], rfl, rfl, by omega⟩⟩
 ·have hk8 : k = 8 := by omega
  have hkI : ¬ (k : Int) < 8 := by omega
  rw [hk8] at t5
  have hb := hK_ l
  by_cases hg : (2000000000000000000 : Int) < (bC_ 0 (l.take 8) : Nat)
  ·simp (disch := omega) only [t5, t10, hkI, hg, go_sem, reduceEqDiff, ↓reduceIte]
   rw [kh_, if_neg (by omega), if_pos (by omega)]
   exact ⟨2, rfl⟩
  ·simp (disch := omega) only [t0, t5, t10, hkI, hg, aq_, go_sem, reduceEqDiff, reduceCtorEq, Int.reduceLE, Int.reduceToNat, ↓reduceIte]
   refine aa_.q (gj_ _ _) ?_
   rw [kh_, if_neg (by omega), if_neg (by omega), pc_, take_length]
   exact ⟨2, rfl⟩
abbrev cZ_ (out : List (List UInt8)) : List (List AV) := (out.map txt).map az_
theorem mU_ (out : List (List UInt8)) : bss (out.map txt) = out := by
 rw [bss, map_map]
 conv => rhs; rw [← map_id out]
 exact map_congr_left fun x _ => bs_ x
theorem c2_ (out : List (List UInt8)) : a5_ (out.map txt) = dr_ out := by
 rw [Bool.eq_iff_iff]
 simp only [a5_, dr_, bp_, uB_, length_map, all_map, Bool.and_eq_true, decide_eq_true_eq, all_eq_true, Function.comp, ce_]
 constructor
 ·rintro ⟨h1, h2⟩
  exact ⟨by omega, fun x hx => by have := h2 x hx; omega⟩
 ·rintro ⟨h1, h2⟩
  exact ⟨by omega, fun x hx => by have := h2 x hx; omega⟩
theorem eA_ (l : List UInt8) (h : 0 < l.length) : cE_ l = if l[0] = 1 then kh_ (l.drop 1) else if l[0] = 2 then bF_ (l.drop 1) [] else none := by
 cases l with
 | nil => simp at h
 | cons b l => rfl
theorem gF_ : ik_ none = .tup [.val (.string (txt [])), .val (.string (txt [])), .val (.bool false)] := rfl
theorem gJ_ (t r : List UInt8) : ik_ (some (t, r)) = .tup [.val (.string (txt t)), .val (.string (txt r)), .val (.bool true)] := rfl
def cH_ (s : ByteArray) : List ByteArray × Bool :=
 match ey_ cE_ (bs s) with
 | some xs => (xs.map txt, true)
 | none => ([], false)
abbrev lF_ (p : List ByteArray × Bool) : AV := .tup [.list 0 1 (p.1.map az_), .val (.bool p.2)]
theorem ih_ {s : ByteArray} (h : bX_ cE_ 5 (bs s) [] = none) : cH_ s = ([], false) := by
 rw [cH_, ey_, h]
theorem j2_ {s : ByteArray} {out : List (List UInt8)} {left : List UInt8} (h : bX_ cE_ 5 (bs s) [] = some (out, left)) (q : ¬ (left = [] ∧ dr_ out = true ∧ bW_ out = bs s)) : cH_ s = ([], false) := by
 rw [cH_, ey_, h]; simp only; rw [if_neg q]
theorem qk_ {s : ByteArray} {out : List (List UInt8)} (h : bX_ cE_ 5 (bs s) [] = some (out, [])) (h2 : dr_ out = true) (h3 : bW_ out = bs s) : cH_ s = (out.map txt, true) := by
 simp [cH_, ey_, h, h2, h3]
theorem pJ_ {out : List (List UInt8)} (h : dr_ out = true) : out.length ≤ 4 := by
 simp only [dr_, Bool.and_eq_true, decide_eq_true_eq] at h; exact h.1
theorem lq_ (out : List (List UInt8)) : ∀ e ∈ cZ_ out, e.all AV.flat = true := by
 intro e he
 obtain ⟨x, _, q⟩ := mem_map.1 he; subst q; rfl
theorem mO_ (h0 : List Row) (out : List (List UInt8)) (rest : List Row) : [AV.own h0.length out.length].mapM (AW.resolve (h0 ++ ⟨9, 1, cZ_ out⟩ :: rest) 2) = some [.list 0 1 (cZ_ out)] :=
 mc_ (kc_ (n := 0) (r := ⟨9, 1, cZ_ out⟩) (by rw [hl_]; rfl) (by simp) (lq_ out))
theorem cU_ {base l : Nat} {H : List Row} {E : Tag} {out : List ByteArray} (hl : H[l]? = some ⟨E, 1, out.map az_⟩) (hb : base ≤ l) : aB_ base (l + 1) H (.own l out.length) (.list 0 1 (out.map az_)) :=
 aB_.mkown (lo := l + 1) (hi := l + 1) (bf_.ofVals _ _ _ _ (by
  intro e he c hc
  obtain ⟨x, _, q⟩ := mem_map.1 he; subst q
  simp only [az_, mem_singleton] at hc
  exact ⟨_, hc⟩)) hl (by simp) hb (Nat.lt_succ_self _) (Nat.le_refl _)
theorem b8_ {lo hi : Nat} {H : List Row} {a r : AV} (h : aB_ lo hi H a r) (hlh : lo ≤ hi) (v : Value) : c6_ lo H (.tup [a, .val v]) (.tup [r, .val v]) :=
 (aB_.tup (aF_.cons h (aF_.val v (aF_.nil hi hi H)) ⟨hlh, Nat.le_refl _⟩)).fresh
theorem pu_ {out : List (List UInt8)} (h : dr_ out = true) : mL_ (out.map txt) = bW_ out := by
 rw [mL_, c2_, if_pos h, mU_]
theorem kN_ (take : List UInt8 → Option (List UInt8 × List UInt8)) (f : Nat) (l : List UInt8) (out : List (List UInt8)) (h : l ≠ []) : bX_ take (f + 1) l out = match take l with
 | none => none
 | some (t, r) => bX_ take f r (out ++ [t]) := by
 rw [bX_, if_neg h]; cases take l <;> rfl
theorem iF_ (l : List UInt8) : (txt l = txt []) = (l = []) := nJ_ l []
def c97 : LC :=
 .q [.o [.nl 2, .f 3], .o [.s 8 (.buildSlice 9 1 (.string ⟨#[]⟩) 0 []), .m 9 0, .m 4 8, .m 5 9], .block 0 (.loop (.q [.q [.o [.m 10 5, .s 11 (.bin .neq false (.tmp 10) (.const (.string ⟨#[]⟩))), .m 12 11, .gm 13 12 true
 4, .g 14 12 true (.lenSl (.tmp 13)), .g 15 12 true (.bin .leq false (.tmp 14) (.const (.int .i64 4))), .pf 16 12 15], .k 16 .skip (.exit 0)], .block 1 (.q [.o [.s 6 (.mov (.const (.string ⟨#[]⟩)))], .o [.f 7], .q [.o [.m
 17 5, .s 18 (.indexStr (.tmp 17) (.const (.int .i64 0)))], .block 2 (.q [.o [.s 20 (.bin .eql false (.tmp 18) (.const (.int .u8 1))), .m 19 20], .k 19 (.o [.m 22 5, .s 23 (.sliceStr (.tmp 22) (some (.const (.int .i64
 1))) none), .c1 24 127 23, .m 21 24, .ex 25 21 0, .ex 26 21 1, .ex 27 21 2, .m 6 25, .m 5 26, .m 7 27]) (.q [.o [.s 29 (.bin .eql false (.tmp 18) (.const (.int .u8 2))), .m 28 29], .k 28 (.o [.m 31 5, .s 32 (.sliceStr
 (.tmp 31) (some (.const (.int .i64 1))) none), .c1 33 128 32, .m 30 33, .ex 34 30 0, .ex 35 30 1, .ex 36 30 2, .m 6 34, .m 5 35, .m 7 36]) .skip])])], .q [.o [.m 37 7, .nt 38 37], .k 38 (.q [.o [.nl 2, .f 3], .ret])
 .skip], .o [.m 39 4, .m 40 6, .s 41 (.buildSlice 9 1 (.string ⟨#[]⟩) 1 [(0, .tmp 40)]), .ap 42 9 1 16 39 41, .m 4 42]])])), .q [.o [.m 43 4, .c1 44 76 43, .nt 45 44, .m 46 45, .gm 47 46 false 4, .gc 48 46 false 129 47,
 .gm 49 46 false 0, .g 50 46 false (.bin .neq false (.tmp 48) (.tmp 49)), .pt 51 46 50], .k 51 (.q [.o [.nl 2, .f 3], .ret]) .skip], .o [.m 52 4, .m 2 52, .t 3], .ret]
def uz_ : LF := ⟨1, 53, c97, [.tmp 2, .tmp 3]⟩
theorem u7_ : av_ Tryz.prog Tryz.f97 uz_ := ap_
theorem hY_ (s : ByteArray) (hs : s.size ≤ 1048576) : bj_ Tryz.prog 97 [.val (.string s)] (lF_ (cH_ s)) (fun a => ∃ b q, a = .tup [b, .val (.bool q)]) := by
 refine dU_ mixed Tryz.func97 u7_ rfl (fun h0 => ?_)
 have hbl := eY_ s
 simp (disch := omega) only [uz_, c97, go_sem, reduceEqDiff, reduceCtorEq, ↓reduceIte]
 refine aJ_ (fun n t h => ∃ (out : List (List UInt8)) (left : List UInt8) (rest : List Row), t 0 = .val (.string s) ∧ t 4 = .own h0.length out.length ∧ t 5 = .val (.string (txt left)) ∧ h = h0 ++ ⟨9, 1, cZ_ out⟩ :: rest ∧ n = 5 - out.length ∧ out.length ≤ 5 ∧ left.length ≤ s.size ∧ bX_ cE_ 5 (bs s) [] = bX_ cE_ (5 - out.length) left out) 5 ?_ ?_
 ·exact ⟨[], bs s, [], rfl, rfl, by rw [fr_]; rfl, rfl, rfl, by simp, Nat.le_of_eq (eY_ s), rfl⟩
 rintro J hJ n t h ⟨out, left, rest, t0, t4, t5, rfl, rfl, ho, hle, hS⟩
 have fl : (cZ_ out).length = out.length := by simp
 have hA := mO_ h0 out rest
 by_cases q0 : left = []
 ·subst q0
  have hR : bX_ cE_ 5 (bs s) [] = some (out, []) := by
   rw [hS]; cases 5 - out.length with
   | zero => rw [bX_]
   | succ f => rw [bX_, if_pos rfl]
  have q0' : (txt ([] : List UInt8) = txt []) = True := by simp
  simp (disch := omega) only [t4, t5, fl, ao_, go_sem, reduceEqDiff, reduceLeDiff, Int.reduceLE, Int.reduceToNat, ↓reduceIte]
  refine aa_.call (AW.frozen (bL_ (out.map txt) (by simp; omega)) hA) ?_
  by_cases s1 : dr_ out = true
  case neg =>
   have s1' : a5_ (out.map txt) = false := by rw [c2_]; simpa using s1
   simp (disch := omega) only [t4, s1', ao_, go_sem, reduceEqDiff, ↓reduceIte]
   rw [j2_ hR (fun q => s1 q.2.1)]
   exact ⟨_, rfl, b8_ (aB_.mknil _ _ _ 1) (Nat.le_refl _) _, _, _, rfl⟩
  have s1' : a5_ (out.map txt) = true := by rw [c2_]; exact s1
  simp (disch := omega) only [t4, s1', go_sem, reduceEqDiff, ↓reduceIte]
  refine aa_.call (AW.frozen (ju_ (out.map txt) (by simp; omega)) hA) ?_
  rw [pu_ s1]
  by_cases s2 : bW_ out = bs s
  case neg =>
   have s2' : (txt (bW_ out) = s) = False := by rw [eq_iff_iff, iff_false]; intro e; exact s2 (by rw [← e]; exact (bs_ _).symm)
   simp (disch := omega) only [t0, t4, s2', ao_, go_sem, reduceEqDiff, reduceCtorEq, ↓reduceIte]
   rw [j2_ hR (fun q => s2 q.2.2)]
   exact ⟨_, rfl, b8_ (aB_.mknil _ _ _ 1) (Nat.le_refl _) _, _, _, rfl⟩
  have s2' : (txt (bW_ out) = s) = True := by rw [s2, fr_]; simp
  simp (disch := omega) only [t0, t4, s2', ao_, go_sem, reduceEqDiff, reduceCtorEq, ↓reduceIte]
  rw [qk_ hR s1 s2]
  have hz := b8_ (cU_ (base := h0.length) (l := h0.length) (E := 9) (out := out.map txt) (H := h0 ++ ⟨9, 1, cZ_ out⟩ :: rest) (by rw [hl_]; rfl) (Nat.le_refl _)) (by omega) (.bool true)
  rw [length_map] at hz
  exact ⟨_, rfl, hz, _, _, rfl⟩
 ·have hpos : 0 < left.length := by cases left with
   | nil => exact absurd rfl q0
   | cons b l => simp
  have q0' : (txt left = txt []) = False := by rw [iF_]; simp [q0]
  by_cases q4 : out.length ≤ 4
  ·have q4' : (out.length : Int) ≤ 4 := by omega
   have e5 : 5 - out.length = (4 - out.length) + 1 := by omega
   rw [e5, kN_ cE_ (4 - out.length) left out q0] at hS
   have hdl : (left.drop 1).length ≤ 1048576 := by rw [length_drop]; omega
   by_cases q1 : left[0] = 1
   ·have q1' : ((left[0].toNat : Int) = 1) = True := by simp [q1]
    simp (disch := omega) only [t4, t5, q0', q4', q1', fl, take_length, ao_, go_sem, reduceEqDiff, reduceLeDiff, Int.reduceLE, Int.reduceToNat, ↓reduceIte]
    have hc := fun h => iy_ (left.drop 1) hdl h
    cases hn : kh_ (left.drop 1) with
    | none =>
     rw [hn, gF_] at hc
     rw [eA_ left hpos, if_pos q1, hn] at hS
     refine aa_.call (hc _) ?_
     simp (disch := omega) only [t4, fl, ao_, go_sem, reduceEqDiff, reduceLeDiff, ↓reduceIte]
     rw [ih_ (by rw [hS])]
     exact ⟨_, rfl, b8_ (aB_.mknil _ _ _ 1) (Nat.le_refl _) _, _, _, rfl⟩
    | some p =>
     obtain ⟨x, r⟩ := p
     rw [hn, gJ_] at hc
     have hlen := kL_ left x r (by rw [eA_ left hpos, if_pos q1, hn])
     rw [eA_ left hpos, if_pos q1, hn] at hS
     refine aa_.call (hc _) ?_
     simp (disch := omega) only [t4, fl, ao_, go_sem, reduceEqDiff, reduceLeDiff, ↓reduceIte]
     refine ⟨by omega, by omega, ?_⟩
     try simp (disch := omega) only [t0, t4, t5, q0', q4', fl, ao_, go_sem, reduceEqDiff, Nat.reduceAdd, reduceLeDiff, reduceCtorEq, Int.reduceLT, Int.reduceLE, Int.reduceNeg, Int.reduceSub, Int.reduceAdd, Int.reduceToNat, ↓reduceIte]
     exact ⟨5 - (out.length + 1), by omega, hJ _ _ _ ⟨out ++ [x], r, rest ++ [⟨9, 1, [[.val (.string (txt x))]]⟩], by simp [upd, t0], by simp [upd], by simp [upd], by simp [az_], by simp, by simp; omega, by omega, by simpa [Nat.sub_sub] using hS⟩⟩
   ·have q1' : ((left[0].toNat : Int) = 1) = False := by rw [eq_iff_iff, iff_false]; intro e; exact q1 (UInt8.toNat_inj.1 (by have h2 : (1 : UInt8).toNat = 1 := rfl; omega))
    by_cases q2 : left[0] = 2
    ·have q2' : ((left[0].toNat : Int) = 2) = True := by simp [q2]
     simp (disch := omega) only [t4, t5, q0', q4', q1', q2', fl, take_length, ao_, go_sem, reduceEqDiff, reduceLeDiff, Int.reduceLE, Int.reduceToNat, ↓reduceIte]
     have hc := fun h => iA_ (left.drop 1) hdl h
     cases hn : bF_ (left.drop 1) [] with
     | none =>
      rw [hn, gF_] at hc
      rw [eA_ left hpos, if_neg q1, if_pos q2, hn] at hS
      refine aa_.call (hc _) ?_
      simp (disch := omega) only [t4, fl, ao_, go_sem, reduceEqDiff, reduceLeDiff, ↓reduceIte]
      rw [ih_ (by rw [hS])]
      exact ⟨_, rfl, b8_ (aB_.mknil _ _ _ 1) (Nat.le_refl _) _, _, _, rfl⟩
     | some p =>
      obtain ⟨x, r⟩ := p
      rw [hn, gJ_] at hc
      have hlen := kL_ left x r (by rw [eA_ left hpos, if_neg q1, if_pos q2, hn])
      rw [eA_ left hpos, if_neg q1, if_pos q2, hn] at hS
      refine aa_.call (hc _) ?_
      simp (disch := omega) only [t4, fl, ao_, go_sem, reduceEqDiff, reduceLeDiff, ↓reduceIte]
      refine ⟨by omega, by omega, ?_⟩
      try simp (disch := omega) only [t0, t4, t5, q0', q4', fl, ao_, go_sem, reduceEqDiff, Nat.reduceAdd, reduceLeDiff, reduceCtorEq, Int.reduceLT, Int.reduceLE, Int.reduceNeg, Int.reduceSub, Int.reduceAdd, Int.reduceToNat, ↓reduceIte]
      exact ⟨5 - (out.length + 1), by omega, hJ _ _ _ ⟨out ++ [x], r, rest ++ [⟨9, 1, [[.val (.string (txt x))]]⟩], by simp [upd, t0], by simp [upd], by simp [upd], by simp [az_], by simp, by simp; omega, by omega, by simpa [Nat.sub_sub] using hS⟩⟩
    ·have q2' : ((left[0].toNat : Int) = 2) = False := by rw [eq_iff_iff, iff_false]; intro e; exact q2 (UInt8.toNat_inj.1 (by have h2 : (2 : UInt8).toNat = 2 := rfl; omega))
     rw [eA_ left hpos, if_neg q1, if_neg q2] at hS
     simp (disch := omega) only [t4, t5, q0', q4', q1', q2', fl, take_length, ao_, go_sem, reduceEqDiff, reduceLeDiff, Int.reduceLE, Int.reduceToNat, ↓reduceIte]
     rw [ih_ (by rw [hS])]
     exact ⟨_, rfl, b8_ (aB_.mknil _ _ _ 1) (Nat.le_refl _) _, _, _, rfl⟩
  ·have q4' : ¬ (out.length : Int) ≤ 4 := by omega
   have e0 : 5 - out.length = 0 := by omega
   have hR : bX_ cE_ 5 (bs s) [] = some (out, left) := by rw [hS, e0, bX_]
   have s1 : ¬ dr_ out = true := fun q => q4 (pJ_ q)
   simp (disch := omega) only [t4, t5, q0', q4', fl, ao_, go_sem, reduceEqDiff, reduceLeDiff, Int.reduceLE, Int.reduceToNat, ↓reduceIte]
   refine aa_.call (AW.frozen (bL_ (out.map txt) (by simp; omega)) hA) ?_
   have s1' : a5_ (out.map txt) = false := by rw [c2_]; simpa using s1
   simp (disch := omega) only [t4, s1', ao_, go_sem, reduceEqDiff, ↓reduceIte]
   rw [j2_ hR (fun q => s1 q.2.1)]
   exact ⟨_, rfl, b8_ (aB_.mknil _ _ _ 1) (Nat.le_refl _) _, _, _, rfl⟩
theorem gh_ (s : ByteArray) (hs : s.size ≤ 1048576) (h : List Row) : aa_ Tryz.prog 97 [.val (.string s)] h (lF_ (cH_ s)) := (hY_ s hs).pure rfl h
theorem vT_ (q : Bool) (a : Int) : a8_ .shl q (.val (.int .i64 a)) (.val (.int .u64 8)) = some (.val (.int .i64 (IntKind.i64.wrap (a * 256)))) := by
 rw [nO_ _ _ _ _ _ (by decide)]; rfl
theorem or8 (q : Bool) (x b : Nat) (h : b < 256) (hx : x < 72057594037927936) : a8_ .or q (.val (.int .i64 (IntKind.i64.wrap ((IntKind.i64.wrap (x : Int)) * 256)))) (.val (.int .i64 (b : Int))) = some (.val (.int .i64 (IntKind.i64.wrap ((x * 256 + b : Nat) : Int)))) := by
 have h8 : (2 : Int) ^ (min (8 : Int).toNat 64) = 256 := by decide
 have := sJ_ x b h (by omega)
 rw [h8] at this
 rw [sC_, this, Nat.mod_eq_of_lt (by omega)]
theorem wg_ (q : Bool) (x b : Nat) (h : b < 256) (hx : x < 72057594037927936) : a8_ .or q (.val (.int .i64 (IntKind.i64.wrap ((x : Int) * 256)))) (.val (.int .i64 (b : Int))) = some (.val (.int .i64 (IntKind.i64.wrap ((x * 256 + b : Nat) : Int)))) := by
 have := or8 q x b h hx
 rwa [aq_ (n := (x : Int)) (by omega) (by omega)] at this
def tY_ : LC :=
 .q [.o [.ki 2 0], .o [.ki 3 0], .q [.o [.ki 4 0], .block 0 (.loop (.q [.q [.o [.m 5 4, .bk 6 .lss false 5 8], .k 6 .skip (.exit 0)], .block 1 (.o [.m 9 3, .s 10 (.bin .shl false (.tmp 9) (.const (.int .u64 8))), .m 11 0,
 .m 12 4, .s 13 (.indexStr (.tmp 11) (.tmp 12)), .s 14 (.convInt .i64 (.tmp 13)), .bb 15 .or false 10 14, .m 3 15]), .o [.m 7 4, .bk 8 .add false 7 1, .m 4 8]]))], .o [.m 16 3, .m 2 16], .ret]
def rU_ : LF := ⟨1, 17, tY_, [.tmp 2]⟩
theorem uy_ : av_ Tryz.prog Tryz.f121 rU_ := ap_
theorem kv_ (l : List UInt8) (hl : l.length = 8) (h : List Row) : aa_ Tryz.prog 121 [.val (.string (txt l))] h (.val (.int .i64 (IntKind.i64.wrap (bC_ 0 l)))) := by
 refine an_ mixed Tryz.func121 uy_ rfl rfl ?_ h
 simp (disch := omega) only [rU_, tY_, go_sem]
 refine aJ_ (fun n t h => ∃ k : Nat, t 0 = .val (.string (txt l)) ∧ t 3 = .val (.int .i64 (IntKind.i64.wrap (bC_ 0 (l.take k)))) ∧ t 4 = .val (.int .i64 k) ∧ h = [] ∧ n = 8 - k ∧ k ≤ 8) 8 ?_ ?_
 ·exact ⟨0, rfl, by rw [take_zero, mC_]; rfl, rfl, rfl, rfl, by omega⟩
 rintro J hJ n t h ⟨k, t0, t3, t4, rfl, rfl, hk⟩
 by_cases hlt : k < 8
 ·have hkl : k < l.length := by omega
  have hkI : (k : Int) < 8 := by omega
  have hb := io_ l k (by omega)
  have hu := jt_ l[k]
  simp (disch := omega) only [t0, t3, t4, hkI, vT_, wg_, aq_, go_sem, reduceEqDiff, reduceCtorEq, ↓reduceIte]
  exact ⟨8 - (k + 1), by omega, hJ _ _ _ ⟨k + 1, by simp [upd, t0], by rw [kR_ l k hkl]; simp [upd], by simp [upd], rfl, rfl, by omega⟩⟩
 ·have hkI : ¬ (k : Int) < 8 := by omega
  simp (disch := omega) only [t3, t4, hkI, go_sem, reduceEqDiff, ↓reduceIte]
  rw [take_of_length_le (by omega)]
  exact ⟨1, rfl⟩
theorem rj_ (l : List UInt8) (h : 0 < l.length) : cp_ l = if l[0] = 1 ∧ 9 ≤ l.length then (if 1 ≤ bC_ 0 ((l.drop 1).take 8) ∧ bC_ 0 ((l.drop 1).take 8) ≤ 1999999999999999999 then some (bm_ ((bC_ 0 ((l.drop 1).take 8) : Int) - 1000000000000000000), (l.drop 1).drop 8) else none) else if l[0] = 2 then bF_ (l.drop 1) [] else none := by
 cases l with
 | nil => simp at h
 | cons b l =>
  have e : (9 ≤ (b :: l).length) = (8 ≤ l.length) := by simp
  rw [cp_]
  simp only [e, getElem_cons_zero, drop_succ_cons, drop_zero]
theorem ne_ (N : Nat) (h : N < 18446744073709551616) : cg_ (IntKind.i64.wrap (N : Int)) 1 1999999999999999999 = decide (1 ≤ N ∧ N ≤ 1999999999999999999) := by
 rw [cg_, IntKind.wrap_i64, Bool.eq_iff_iff]
 simp only [Bool.and_eq_true, decide_eq_true_eq]
 omega
def c87 : LC :=
 .q [.o [.s 2 (.mov (.const (.string ⟨#[]⟩))), .s 3 (.mov (.const (.string ⟨#[]⟩))), .f 4], .q [.o [.m 8 0, .s 9 (.indexStr (.tmp 8) (.const (.int .i64 0))), .s 10 (.bin .eql false (.tmp 9) (.const (.int .u8 1))), .m 11
 10, .gm 12 11 true 0, .g 13 11 true (.lenStr (.tmp 12)), .g 14 11 true (.bin .geq false (.tmp 13) (.const (.int .i64 9))), .pf 15 11 14], .k 15 (.q [.o [.m 16 0, .s 17 (.sliceStr (.tmp 16) (some (.const (.int .i64 1)))
 (some (.const (.int .i64 9)))), .c1 18 121 17, .m 5 18], .q [.o [.m 19 5, .s 20 (.call 61 [.tmp 19, .const (.int .i64 1), .const (.int .i64 1999999999999999999)]), .nt 21 20], .k 21 (.q [.o [.s 2 (.mov (.const (.string
 ⟨#[]⟩))), .s 3 (.mov (.const (.string ⟨#[]⟩))), .f 4], .ret]) .skip], .dops [.m 22 5, .bk 23 .sub false 22 1000000000000000000, .c1 24 122 23, .m 25 0, .s 26 (.sliceStr (.tmp 25) (some (.const (.int .i64 9))) none), .m 2
 24, .m 3 26, .t 4], .ret]) .skip], .q [.o [.m 27 0, .s 28 (.indexStr (.tmp 27) (.const (.int .i64 0))), .s 29 (.bin .neq false (.tmp 28) (.const (.int .u8 2)))], .k 29 (.q [.o [.s 2 (.mov (.const (.string ⟨#[]⟩))), .s 3
 (.mov (.const (.string ⟨#[]⟩))), .f 4], .ret]) .skip], .o [.s 30 (.buildSlice 5 1 (.int .u8 0) 0 []), .m 6 30], .q [.o [.ki 7 1], .block 0 (.loop (.q [.q [.o [.m 31 7, .bk 32 .add false 31 1, .m 33 0, .s 34 (.lenStr
 (.tmp 33)), .bb 35 .lss false 32 34], .k 35 .skip (.exit 0)], .block 1 (.q [.q [.o [.m 38 0, .m 39 7, .s 40 (.indexStr (.tmp 38) (.tmp 39)), .s 41 (.bin .neq false (.tmp 40) (.const (.int .u8 0)))], .k 41 (.q [.o [.m 42
 6, .m 43 0, .m 44 7, .s 45 (.indexStr (.tmp 43) (.tmp 44)), .s 46 (.buildSlice 5 1 (.int .u8 0) 1 [(0, .tmp 45)]), .ap 47 5 1 1 42 46, .m 6 47], .exit 1]) .skip], .q [.o [.m 48 0, .m 49 7, .bk 50 .add false 49 1, .s 51
 (.indexStr (.tmp 48) (.tmp 50)), .s 52 (.bin .eql false (.tmp 51) (.const (.int .u8 0)))], .k 52 (.q [.dops [.m 53 6, .s 54 (.toStr (.tmp 53)), .m 55 0, .m 56 7, .bk 57 .add false 56 2, .s 58 (.sliceStr (.tmp 55) (some
 (.tmp 57)) none), .m 2 54, .m 3 58, .t 4], .ret]) .skip], .q [.o [.m 59 0, .m 60 7, .bk 61 .add false 60 1, .s 62 (.indexStr (.tmp 59) (.tmp 61)), .s 63 (.bin .neq false (.tmp 62) (.const (.int .u8 255)))], .k 63 (.q [.o
 [.s 2 (.mov (.const (.string ⟨#[]⟩))), .s 3 (.mov (.const (.string ⟨#[]⟩))), .f 4], .ret]) .skip], .o [.m 64 6, .s 65 (.buildSlice 5 1 (.int .u8 0) 1 [(0, .const (.int .u8 0))]), .ap 66 5 1 1 64 65, .m 6 66], .o [.m 67
 7, .bk 68 .add false 67 1, .m 7 68]]), .o [.m 36 7, .bk 37 .add false 36 1, .m 7 37]]))], .o [.s 2 (.mov (.const (.string ⟨#[]⟩))), .s 3 (.mov (.const (.string ⟨#[]⟩))), .f 4], .ret]
def th_ : LF := ⟨1, 69, c87, [.tmp 2, .tmp 3, .tmp 4]⟩
theorem vK_ : av_ Tryz.prog Tryz.f87 th_ := ap_
theorem jW_ (l : List UInt8) (hp : 0 < l.length) (hl : l.length ≤ 1048576) (h : List Row) : aa_ Tryz.prog 87 [.val (.string (txt l))] h (ik_ (cp_ l)) := by
 refine an_ mixed Tryz.func87 vK_ rfl rfl ?_ h
 rw [rj_ l hp]
 simp (disch := omega) only [th_, c87, go_sem, reduceCtorEq, Int.reduceLE, ↓reduceIte]
 by_cases q1 : l[0] = 1
 ·have q1' : ((l[0].toNat : Int) = 1) = True := by simp [q1]
  have q12 : ((l[0].toNat : Int) = 2) = False := by simp [q1]
  have q2n : ¬ l[0] = 2 := by rw [q1]; decide
  by_cases q9 : 9 ≤ l.length
  ·have q9' : (9 : Int) ≤ l.length := by omega
   have e9 : List.drop 1 (List.take 9 l) = (l.drop 1).take 8 := by rw [drop_take]
   have e10 : List.drop 9 l = (l.drop 1).drop 8 := by rw [drop_drop]
   have hN := hK_ (l.drop 1)
   rw [if_pos ⟨q1, q9⟩]
   simp (disch := omega) only [q1', q9', e9, ao_, go_sem, reduceEqDiff, reduceLeDiff, reduceCtorEq, Int.reduceLE, Int.reduceToNat, ↓reduceIte]
   refine aa_.call (kv_ _ (by simp; omega) _) ?_
   simp (disch := omega) only [go_sem, ↓reduceIte]
   refine aa_.call (fD_ _ _ _ _) ?_
   rw [ne_ _ hN]
   by_cases qr : 1 ≤ bC_ 0 ((l.drop 1).take 8) ∧ bC_ 0 ((l.drop 1).take 8) ≤ 1999999999999999999
   ·rw [if_pos qr]
    have qr' : decide (1 ≤ bC_ 0 ((l.drop 1).take 8) ∧ bC_ 0 ((l.drop 1).take 8) ≤ 1999999999999999999) = true := by simpa using qr
    simp (disch := omega) only [qr', aq_, take_length, e10, ao_, go_sem, reduceEqDiff, reduceCtorEq, Int.reduceLE, Int.reduceToNat, ↓reduceIte]
    refine aa_.q (gz_ _ (by omega) (by omega) _) ?_
    exact ⟨2, rfl⟩
   ·rw [if_neg qr]
    have qr' : decide (1 ≤ bC_ 0 ((l.drop 1).take 8) ∧ bC_ 0 ((l.drop 1).take 8) ≤ 1999999999999999999) = false := by simpa using qr
    simp (disch := omega) only [qr', ao_, go_sem, reduceEqDiff, reduceCtorEq, Int.reduceLE, Int.reduceToNat, ↓reduceIte]
    exact ⟨2, rfl⟩
  ·have q9' : ¬ (9 : Int) ≤ l.length := by omega
   rw [if_neg (fun z => q9 z.2), if_neg q2n]
   simp (disch := omega) only [q1', q9', q12, ao_, go_sem, reduceEqDiff, reduceLeDiff, reduceCtorEq, Int.reduceLE, Int.reduceToNat, ↓reduceIte]
   exact ⟨2, rfl⟩
 ·have q1' : ((l[0].toNat : Int) = 1) = False := by rw [eq_iff_iff, iff_false]; intro e; exact q1 (UInt8.toNat_inj.1 (by have h2 : (1 : UInt8).toNat = 1 := rfl; omega))
  rw [if_neg (fun z => q1 z.1)]
  by_cases q2 : l[0] = 2
  case neg =>
   have q2' : ((l[0].toNat : Int) = 2) = False := by rw [eq_iff_iff, iff_false]; intro e; exact q2 (UInt8.toNat_inj.1 (by have h2 : (2 : UInt8).toNat = 2 := rfl; omega))
   rw [if_neg q2]
   simp (disch := omega) only [q1', q2', ao_, go_sem, reduceEqDiff, reduceLeDiff, reduceCtorEq, Int.reduceLE, Int.reduceToNat, ↓reduceIte]
   exact ⟨2, rfl⟩
  have q2' : ((l[0].toNat : Int) = 2) = True := by simp [q2]
  rw [if_pos q2]
  simp (disch := omega) only [q1', q2', ao_, go_sem, reduceEqDiff, reduceLeDiff, reduceCtorEq, Int.reduceLE, Int.reduceToNat, ↓reduceIte]
  refine aJ_ (fun n t h => ∃ (i : Nat) (acc : List UInt8) (rest : List Row), t 0 = .val (.string (txt l)) ∧ t 6 = .own 0 acc.length ∧ t 7 = .val (.int .i64 i) ∧ h = ⟨5, 1, a3_ acc⟩ :: rest ∧ n = l.length + 1 - i ∧ i ≤ l.length ∧ acc.length ≤ i ∧ bF_ (l.drop 1) [] = bF_ (l.drop i) acc) l.length ?_ ?_
  ·exact ⟨1, [], [], rfl, rfl, rfl, rfl, by omega, by omega, by simp, rfl⟩
  rintro J hJ n t h ⟨i, acc, rest, t0, t6, t7, rfl, rfl, hi, hac, hS⟩
  have fl := eu_ acc
  by_cases hlt : i + 1 < l.length
  ·have hlt' : (i : Int) + 1 < l.length := by omega
   have hlt0 : i < l.length := by omega
   have ei : (i : Int) + 1 = ((i + 1 : Nat) : Int) := by omega
   have ei2 : (i : Int) + 2 = ((i + 2 : Nat) : Int) := by omega
   rw [jH_ l acc i hlt] at hS
   by_cases r0 : l[i] = 0
   ·rw [if_pos r0] at hS
    have r0' : ((l[i].toNat : Int) = 0) = True := by simp [r0]
    by_cases r1 : l[i + 1] = 0
    ·rw [if_pos r1] at hS
     have r1' : ((l[i + 1].toNat : Int) = 0) = True := by simp [r1]
     simp (disch := omega) only [t0, t6, t7, ei, ei2, hlt, r0', r1', aq_, fl, fJ_, take_length, Option.map_some, go_sem, reduceEqDiff, reduceCtorEq, ↓reduceIte]
     rw [hS]
     exact ⟨2, rfl⟩
    ·rw [if_neg r1] at hS
     have r1' : ((l[i + 1].toNat : Int) = 0) = False := by rw [eq_iff_iff, iff_false]; intro e; exact r1 (UInt8.toNat_inj.1 (by have h2 : (0 : UInt8).toNat = 0 := rfl; omega))
     by_cases r2 : l[i + 1] = 255
     ·rw [if_pos r2] at hS
      have r2' : ((l[i + 1].toNat : Int) = 255) = True := by simp [r2]
      simp (disch := omega) only [t0, t6, t7, ei, hlt, r0', r1', r2', aq_, fl, go_sem, reduceEqDiff, reduceLeDiff, reduceCtorEq, ↓reduceIte]
      refine ⟨by omega, by omega, ?_⟩
      try simp (disch := omega) only [t0, t6, t7, ei, ei2, hlt, hlt0, r0', r1', r2', aq_, fl, go_sem, reduceEqDiff, Nat.reduceAdd, reduceLeDiff, reduceCtorEq, Int.reduceLT, Int.reduceLE, Int.reduceNeg, Int.reduceSub, Int.reduceAdd, Int.reduceToNat, ↓reduceIte]
      exact ⟨l.length + 1 - (i + 2), by omega, hJ _ _ _ ⟨i + 2, acc ++ [0], rest ++ [⟨5, 1, a3_ [0]⟩], by simp [upd, t0], by simp [upd], by simp [upd]; try omega, by simp [a3_], rfl, by omega, by simp; omega, hS⟩⟩
     ·rw [if_neg r2] at hS
      have r2' : ((l[i + 1].toNat : Int) = 255) = False := by rw [eq_iff_iff, iff_false]; intro e; exact r2 (UInt8.toNat_inj.1 (by have h2 : (255 : UInt8).toNat = 255 := rfl; omega))
      simp (disch := omega) only [t0, t7, ei, hlt, r0', r1', r2', aq_, go_sem, reduceEqDiff, reduceCtorEq, ↓reduceIte]
      rw [hS]
      exact ⟨2, rfl⟩
   ·rw [if_neg r0] at hS
    have r0' : ((l[i].toNat : Int) = 0) = False := by rw [eq_iff_iff, iff_false]; intro e; exact r0 (UInt8.toNat_inj.1 (by have h2 : (0 : UInt8).toNat = 0 := rfl; omega))
    simp (disch := omega) only [t0, t6, t7, ei, hlt, r0', aq_, fl, go_sem, reduceEqDiff, reduceLeDiff, reduceCtorEq, ↓reduceIte]
    refine ⟨by omega, by omega, ?_⟩
    try simp (disch := omega) only [t0, t6, t7, ei, ei2, hlt, hlt0, r0', aq_, fl, go_sem, reduceEqDiff, Nat.reduceAdd, reduceLeDiff, reduceCtorEq, Int.reduceLT, Int.reduceLE, Int.reduceNeg, Int.reduceSub, Int.reduceAdd, Int.reduceToNat, ↓reduceIte]
    exact ⟨l.length + 1 - (i + 1), by omega, hJ _ _ _ ⟨i + 1, acc ++ [l[i]], rest ++ [⟨5, 1, a3_ [l[i]]⟩], by simp [upd, t0], by simp [upd], by simp [upd]; try omega, by simp [a3_], rfl, by omega, by simp; omega, hS⟩⟩
  ·have hlt' : ¬ (i : Int) + 1 < l.length := by omega
   simp (disch := omega) only [t0, t7, hlt', aq_, go_sem, reduceEqDiff, reduceCtorEq, ↓reduceIte]
   rw [hS, kH_ l acc i (by omega)]
   exact ⟨2, rfl⟩
theorem tf_ (l : List UInt8) (i : Nat) (h : i < l.length) : esc (l.drop i) = if l[i] = 0 then 0 :: 255 :: esc (l.drop (i + 1)) else l[i] :: esc (l.drop (i + 1)) := by
 rw [drop_eq_getElem_cons h, esc]
theorem rK_ (n k : Nat) (h : k < 8) : IntKind.u8.wrap ((n : Int).fdiv (2 ^ min (8 * (7 - (k : Int))).toNat 64)) = ((cn_ n (7 - k)).toNat : Int) := by
 have e : (8 * (7 - (k : Int))).toNat = (8 * ((7 - k : Nat) : Int)).toNat := by omega
 rw [e, mb_ _ _ (by omega), jM_]
theorem kB_ (l : List UInt8) (b : UInt8) : a3_ l ++ [[AV.val (.int .u8 b.toNat)]] = a3_ (l ++ [b]) := by simp [a3_]
def ta_ : LC :=
 .q [.o [.s 2 (.mov (.const (.string ⟨#[]⟩)))], .o [.s 7 (.buildSlice 5 1 (.int .u8 0) 0 []), .m 3 7], .q [.o [.m 8 0, .c1 9 143 8], .k 9 (.q [.o [.m 10 0, .c1 11 144 10, .bk 12 .add false 11 1000000000000000000, .m 4
 12], .o [.m 13 3, .s 14 (.buildSlice 5 1 (.int .u8 0) 1 [(0, .const (.int .u8 1))]), .ap 15 5 1 1 13 14, .m 3 15], .q [.o [.ki 5 7], .block 0 (.loop (.q [.q [.o [.m 16 5, .bk 17 .geq false 16 0], .k 17 .skip (.exit 0)],
 .block 1 (.o [.m 20 3, .m 21 4, .m 22 5, .s 23 (.bin .mul false (.const (.int .i64 8)) (.tmp 22)), .bb 24 .shr false 21 23, .s 25 (.convInt .u8 (.tmp 24)), .s 26 (.buildSlice 5 1 (.int .u8 0) 1 [(0, .tmp 25)]), .ap 27 5
 1 1 20 26, .m 3 27]), .o [.m 18 5, .bk 19 .sub false 18 1, .m 5 19]]))], .o [.m 28 3, .s 29 (.toStr (.tmp 28)), .m 2 29], .ret]) .skip], .o [.m 30 3, .s 31 (.buildSlice 5 1 (.int .u8 0) 1 [(0, .const (.int .u8 2))]), .ap
 32 5 1 1 30 31, .m 3 32], .q [.o [.ki 6 0], .block 2 (.loop (.q [.q [.o [.m 33 6, .m 34 0, .s 35 (.lenStr (.tmp 34)), .bb 36 .lss false 33 35], .k 36 .skip (.exit 2)], .block 3 (.q [.o [.m 39 3, .m 40 0, .m 41 6, .s 42
 (.indexStr (.tmp 40) (.tmp 41)), .s 43 (.buildSlice 5 1 (.int .u8 0) 1 [(0, .tmp 42)]), .ap 44 5 1 1 39 43, .m 3 44], .o [.m 45 0, .m 46 6, .s 47 (.indexStr (.tmp 45) (.tmp 46)), .s 48 (.bin .eql false (.tmp 47) (.const
 (.int .u8 0)))], .k 48 (.o [.m 49 3, .s 50 (.buildSlice 5 1 (.int .u8 0) 1 [(0, .const (.int .u8 255))]), .ap 51 5 1 1 49 50, .m 3 51]) .skip]), .o [.m 37 6, .bk 38 .add false 37 1, .m 6 38]]))], .o [.m 52 3, .s 53
 (.buildSlice 5 1 (.int .u8 0) 2 [(0, .const (.int .u8 0)), (1, .const (.int .u8 0))]), .ap 54 5 1 1 52 53, .s 55 (.toStr (.tmp 54)), .m 2 55], .ret]
def rP_ : LF := ⟨1, 56, ta_, [.tmp 2]⟩
theorem t7_ : av_ Tryz.prog Tryz.f123 rP_ := ap_
theorem j3_ (l : List UInt8) (hl : l.length ≤ 1048576) (h : List Row) : aa_ Tryz.prog 123 [.val (.string (txt l))] h (.val (.string (txt (bH_ l)))) := by
 refine an_ mixed Tryz.func123 t7_ rfl rfl ?_ h
 simp (disch := omega) only [rP_, ta_, go_sem, reduceCtorEq, ↓reduceIte]
 refine aa_.call (i7_ l (by omega) _) ?_
 by_cases q : cP_ l = true
 ·simp (disch := omega) only [q, go_sem, reduceCtorEq, ↓reduceIte]
  refine aa_.call (hL_ l (by omega) _) ?_
  have hn := dn_ l
  have hq := gm_ l
  have hq2 := gf_ l
  have hkey : bH_ l = 1 :: be8 (ci_ l) := by unfold bH_; rw [if_pos q]
  simp (disch := omega) only [aq_, ← hq, go_sem, reduceEqDiff, reduceLeDiff, ↓reduceIte]
  refine ⟨by omega, ?_⟩
  try simp (disch := omega) only [aq_, ← hq, go_sem, reduceEqDiff, Nat.reduceAdd, reduceLeDiff, reduceCtorEq, Int.reduceLT, Int.reduceLE, Int.reduceNeg, Int.reduceSub, Int.reduceAdd, Int.reduceToNat, ↓reduceIte]
  refine aJ_ (fun n t h => ∃ (k : Nat) (rest : List Row), t 3 = .own 0 (1 + k) ∧ t 4 = .val (.int .i64 (ci_ l)) ∧ t 5 = .val (.int .i64 (7 - k)) ∧ h = ⟨5, 1, a3_ (1 :: (be8 (ci_ l)).take k)⟩ :: rest ∧ n = 8 - k ∧ k ≤ 8) 8 ?_ ?_
  ·exact ⟨0, _, rfl, rfl, rfl, rfl, rfl, by omega⟩
  rintro J hJ n t h ⟨k, rest, t3, t4, t5, rfl, rfl, hk⟩
  have fl : (a3_ (1 :: (be8 (ci_ l)).take k)).length = 1 + k := by
   rw [eu_, lc_, length_take, cQ_]; omega
  by_cases hlt : k < 8
  ·have hg : (0 : Int) ≤ 7 - k := by omega
   simp (disch := omega) only [t3, t4, t5, hg, fl, kw_, kq_, aq_, rK_, go_sem, reduceEqDiff, reduceLeDiff, ↓reduceIte]
   refine ⟨by omega, by omega, ?_⟩
   try simp (disch := omega) only [t3, t4, t5, hg, fl, kw_, kq_, aq_, rK_, go_sem, reduceEqDiff, Nat.reduceAdd, reduceLeDiff, reduceCtorEq, Int.reduceLT, Int.reduceLE, Int.reduceNeg, Int.reduceSub, Int.reduceAdd, Int.reduceToNat, ↓reduceIte]
   refine ⟨8 - (k + 1), by omega, hJ _ _ _ ⟨k + 1, rest ++ [⟨5, 1, a3_ [cn_ (ci_ l) (7 - k)]⟩], by simp [upd]; try omega, by simp [upd, t4], by simp [upd]; try omega, ?_, rfl, by omega⟩⟩
   rw [kB_, cons_append, ← mP_ _ _ hlt]
   rfl
  ·have hg : ¬ (0 : Int) ≤ 7 - k := by omega
   simp (disch := omega) only [t3, t5, hg, fl, fJ_, Option.map_some, go_sem, reduceEqDiff, ↓reduceIte]
   rw [nG_ _ _ (by omega), ← hkey]
   exact ⟨1, rfl⟩
 ·have q' : cP_ l = false := by simpa using q
  have hkey : bH_ l = 2 :: (esc l ++ [0, 0]) := by unfold bH_; rw [if_neg q]
  simp (disch := omega) only [q', go_sem, reduceEqDiff, reduceLeDiff, ↓reduceIte]
  refine ⟨by omega, ?_⟩
  try simp (disch := omega) only [go_sem, reduceEqDiff, Nat.reduceAdd, reduceLeDiff, reduceCtorEq, Int.reduceLT, Int.reduceLE, Int.reduceNeg, Int.reduceSub, Int.reduceAdd, Int.reduceToNat, ↓reduceIte]
  refine aJ_ (fun n t h => ∃ (i : Nat) (out : List UInt8) (rest : List Row), t 0 = .val (.string (txt l)) ∧ t 3 = .own 0 out.length ∧ t 6 = .val (.int .i64 i) ∧ h = ⟨5, 1, a3_ out⟩ :: rest ∧ n = l.length - i ∧ i ≤ l.length ∧ out.length ≤ 1 + 2 * i ∧ 2 :: esc l = out ++ esc (l.drop i)) l.length ?_ ?_
  ·exact ⟨0, [2], _, rfl, rfl, rfl, rfl, rfl, by omega, by simp, rfl⟩
  rintro J hJ n t h ⟨i, out, rest, t0, t3, t6, rfl, rfl, hi, hol, hS⟩
  have fl := eu_ out
  by_cases hlt : i < l.length
  ·have hltI : (i : Int) < l.length := by omega
   rw [tf_ l i hlt] at hS
   by_cases r0 : l[i] = 0
   ·rw [if_pos r0] at hS
    have r0' : ((l[i].toNat : Int) = 0) = True := by simp [r0]
    simp (disch := omega) only [t0, t3, t6, hltI, r0', fl, aq_, go_sem, reduceEqDiff, reduceLeDiff, reduceCtorEq, ↓reduceIte]
    refine ⟨by omega, by omega, ?_⟩
    refine ⟨by omega, by omega, ?_⟩
    refine ⟨l.length - (i + 1), by omega, hJ _ _ _ ⟨i + 1, out ++ [0, 255], rest ++ [⟨5, 1, a3_ [l[i]]⟩, ⟨5, 1, a3_ [255]⟩], by simp [upd, t0], by simp [upd], by simp [upd]; try omega, by simp [a3_, r0], rfl, by omega, by simp; omega, by rw [hS]; simp⟩⟩
   ·rw [if_neg r0] at hS
    have r0' : ((l[i].toNat : Int) = 0) = False := by rw [eq_iff_iff, iff_false]; intro e; exact r0 (UInt8.toNat_inj.1 (by have h2 : (0 : UInt8).toNat = 0 := rfl; omega))
    simp (disch := omega) only [t0, t3, t6, hltI, r0', fl, aq_, go_sem, reduceEqDiff, reduceLeDiff, reduceCtorEq, ↓reduceIte]
    refine ⟨by omega, by omega, ?_⟩
    try simp (disch := omega) only [t0, t3, t6, hltI, hlt, r0', fl, aq_, go_sem, reduceEqDiff, Nat.reduceAdd, reduceLeDiff, reduceCtorEq, Int.reduceLT, Int.reduceLE, Int.reduceNeg, Int.reduceSub, Int.reduceAdd, Int.reduceToNat, ↓reduceIte]
    exact ⟨l.length - (i + 1), by omega, hJ _ _ _ ⟨i + 1, out ++ [l[i]], rest ++ [⟨5, 1, a3_ [l[i]]⟩], by simp [upd, t0], by simp [upd], by simp [upd]; try omega, by simp [a3_], rfl, by omega, by simp; omega, by rw [hS]; simp⟩⟩
  ·have hltI : ¬ (i : Int) < l.length := by omega
   rw [drop_eq_nil_of_le (by omega), esc, append_nil] at hS
   simp (disch := omega) only [t0, t3, t6, hltI, fl, go_sem, reduceEqDiff, Nat.reduceAdd, reduceLeDiff, reduceCtorEq, ↓reduceIte]
   refine ⟨by omega, by omega, ?_⟩
   have e2 : a3_ out ++ [[AV.val (.int .u8 0)], [AV.val (.int .u8 0)]] = a3_ (out ++ [0, 0]) := by simp [a3_]
   simp (disch := omega) only [e2, fJ_, Option.map_some, go_sem]
   rw [hkey, ← hS]
   exact ⟨1, rfl⟩
def c89 : LC :=
 .q [.o [.s 2 (.mov (.const (.string ⟨#[]⟩)))], .o [.s 3 (.mov (.const (.string ⟨#[]⟩)))], .q [.o [.ki 4 0], .block 0 (.loop (.q [.q [.o [.m 5 4, .m 6 0, .ll 7 6, .bb 8 .lss false 5 7], .k 8 .skip (.exit 0)], .block 1 (.o
 [.m 11 3, .m 12 0, .m 13 4, .ia 14 1 12 13, .ln 15 14, .c1 16 123 15, .bb 17 .add false 11 16, .m 3 17]), .o [.m 9 4, .bk 10 .add false 9 1, .m 4 10]]))], .o [.m 18 3, .m 2 18], .ret]
def tK_ : LF := ⟨1, 19, c89, [.tmp 2]⟩
theorem vZ_ : av_ Tryz.prog Tryz.f89 tK_ := ap_
theorem j7_ (xs : List ByteArray) (hx : a5_ xs = true) (h : List Row) : aa_ Tryz.prog 89 [.list 0 1 (xs.map az_)] h (.val (.string (txt (bW_ (bss xs))))) := by
 refine an_ mixed Tryz.func89 vZ_ rfl rfl ?_ h
 obtain ⟨h4, hm⟩ := hA_ hx
 simp (disch := omega) only [tK_, c89, go_sem]
 refine aJ_ (fun n t h => ∃ k : Nat, t 0 = .list 0 1 (xs.map az_) ∧ t 3 = .val (.string (txt (bW_ (bss (xs.take k))))) ∧ t 4 = .val (.int .i64 k) ∧ h = [] ∧ n = xs.length - k ∧ k ≤ xs.length) xs.length ⟨0, rfl, rfl, rfl, rfl, rfl, Nat.zero_le _⟩ ?_
 rintro J hJ n t h ⟨k, t0, t3, t4, rfl, rfl, hk⟩
 by_cases hlt : k < xs.length
 ·have hltI : (k : Int) < xs.length := by omega
  have hl1 := i9_ (xs.take k) (fun x hx' => (hm x (mem_of_mem_take hx')).2)
  have hl2 : (xs.take k).length ≤ 4 := by rw [length_take]; omega
  have hl3 := hI_ (bs xs[k])
  have hl4 := hm _ (getElem_mem hlt)
  have hl5 : (bs xs[k]).length = xs[k].size := eY_ _
  have hc := fun h => j3_ (bs xs[k]) (by omega) h
  rw [fr_] at hc
  have hadd : (bW_ (bss (xs.take k))).length + (bH_ (bs xs[k])).length ≤ 9223372036854775807 := by omega
  simp (disch := omega) only [t0, t3, t4, hltI, go_sem, reduceEqDiff, reduceCtorEq, ↓reduceIte]
  refine aa_.call (hc _) ?_
  simp (disch := omega) only [t4, hu_ _ _ _ hadd, aq_, go_sem, reduceEqDiff, ↓reduceIte]
  refine ⟨xs.length - (k + 1), by omega, hJ _ _ _ ⟨k + 1, by simp [upd, t0], ?_, by simp [upd], rfl, rfl, by omega⟩⟩
  rw [take_succ_eq_append_getElem hlt, bss, bss, map_append, l8_]
  simp [upd, bW_]
 ·have hltI : ¬ (k : Int) < xs.length := by omega
  simp (disch := omega) only [t0, t3, t4, hltI, go_sem, reduceEqDiff, reduceCtorEq, ↓reduceIte]
  rw [take_of_length_le (by omega)]
  exact ⟨1, rfl⟩
theorem pr_ {s : ByteArray} (h : bX_ cp_ 5 (bs s) [] = none) : cH_ s = ([], false) := by
 rw [cH_, in_, ey_, h]
theorem ki_ {s : ByteArray} {out : List (List UInt8)} {left : List UInt8} (h : bX_ cp_ 5 (bs s) [] = some (out, left)) (q : ¬ (left = [] ∧ dr_ out = true ∧ bW_ out = bs s)) : cH_ s = ([], false) := by
 rw [cH_, in_, ey_, h]; simp only; rw [if_neg q]
theorem qO_ {s : ByteArray} {out : List (List UInt8)} (h : bX_ cp_ 5 (bs s) [] = some (out, [])) (h2 : dr_ out = true) (h3 : bW_ out = bs s) : cH_ s = (out.map txt, true) := by
 rw [cH_, in_]; simp [ey_, h, h2, h3]
def c67 : LC :=
 .q [.o [.nl 2, .f 3], .o [.s 9 (.buildSlice 9 1 (.string ⟨#[]⟩) 0 []), .m 4 9], .o [.m 10 0, .m 5 10], .block 0 (.loop (.q [.q [.o [.m 11 5, .s 12 (.bin .neq false (.tmp 11) (.const (.string ⟨#[]⟩))), .m 13 12, .gm 14 13
 true 4, .g 15 13 true (.lenSl (.tmp 14)), .g 16 13 true (.bin .leq false (.tmp 15) (.const (.int .i64 4))), .pf 17 13 16], .k 17 .skip (.exit 0)], .block 1 (.q [.o [.m 19 5, .c1 20 87 19, .m 18 20, .ex 21 18 0, .ex 22 18
 1, .ex 23 18 2, .m 6 21, .m 7 22, .m 8 23], .q [.o [.m 24 8, .nt 25 24], .k 25 (.q [.o [.s 26 (.buildSlice 9 1 (.string ⟨#[]⟩) 0 []), .m 2 26, .f 3], .ret]) .skip], .o [.m 27 4, .m 28 6, .s 29 (.buildSlice 9 1 (.string
 ⟨#[]⟩) 1 [(0, .tmp 28)]), .ap 30 9 1 16 27 29, .m 4 30], .o [.m 31 7, .m 5 31]])])), .q [.o [.m 32 5, .s 33 (.bin .neq false (.tmp 32) (.const (.string ⟨#[]⟩))), .m 34 33, .gm 35 34 false 4, .gc 36 34 false 88 35, .gu 37
 34 false 36, .pt 38 34 37, .m 39 38, .gm 40 39 false 4, .gc 41 39 false 89 40, .gm 42 39 false 0, .g 43 39 false (.bin .neq false (.tmp 41) (.tmp 42)), .pt 44 39 43], .k 44 (.q [.o [.s 45 (.buildSlice 9 1 (.string ⟨#[]⟩)
 0 []), .m 2 45, .f 3], .ret]) .skip], .o [.m 46 4, .m 2 46, .t 3], .ret]
def uo_ : LF := ⟨1, 47, c67, [.tmp 2, .tmp 3]⟩
theorem vC_ : av_ Tryz.prog Tryz.f67 uo_ := ap_
theorem h3_ (s : ByteArray) (hs : s.size ≤ 1048576) : bj_ Tryz.prog 67 [.val (.string s)] (lF_ (cH_ s)) (fun a => ∃ b q, a = .tup [b, .val (.bool q)]) := by
 refine dU_ mixed Tryz.func67 vC_ rfl (fun h0 => ?_)
 have hbl := eY_ s
 simp (disch := omega) only [uo_, c67, go_sem, reduceCtorEq, ↓reduceIte]
 refine aJ_ (fun n t h => ∃ (out : List (List UInt8)) (left : List UInt8) (rest : List Row), t 0 = .val (.string s) ∧ t 4 = .own h0.length out.length ∧ t 5 = .val (.string (txt left)) ∧ h = h0 ++ ⟨9, 1, cZ_ out⟩ :: rest ∧ n = 5 - out.length ∧ out.length ≤ 5 ∧ left.length ≤ s.size ∧ bX_ cp_ 5 (bs s) [] = bX_ cp_ (5 - out.length) left out) 5 ?_ ?_
 ·exact ⟨[], bs s, [], rfl, rfl, by rw [fr_]; rfl, rfl, rfl, by simp, Nat.le_of_eq (eY_ s), rfl⟩
 rintro J hJ n t h ⟨out, left, rest, t0, t4, t5, rfl, rfl, ho, hle, hS⟩
 have fl : (cZ_ out).length = out.length := by simp
 have hA := mO_ h0 out rest
 by_cases q0 : left = []
 ·subst q0
  have hR : bX_ cp_ 5 (bs s) [] = some (out, []) := by
   rw [hS]; cases 5 - out.length with
   | zero => rw [bX_]
   | succ f => rw [bX_, if_pos rfl]
  have q0' : (txt ([] : List UInt8) = txt []) = True := by simp
  simp (disch := omega) only [t4, t5, ao_, go_sem, reduceEqDiff, ↓reduceIte]
  refine aa_.call (AW.frozen (eX_ (out.map txt) (by simp; omega)) hA) ?_
  by_cases s1 : dr_ out = true
  case neg =>
   have s1' : a5_ (out.map txt) = false := by rw [c2_]; simpa using s1
   simp (disch := omega) only [t4, s1', ao_, go_sem, reduceEqDiff, ↓reduceIte]
   rw [ki_ hR (fun q => s1 q.2.1)]
   exact ⟨_, rfl, b8_ (cU_ (out := []) (E := 9) (by first | (rw [eZ_]; rfl) | (rw [eZ_]; simp)) (by omega)) (by omega) _, _, _, rfl⟩
  have s1' : a5_ (out.map txt) = true := by rw [c2_]; exact s1
  simp (disch := omega) only [t4, s1', go_sem, reduceEqDiff, ↓reduceIte]
  refine aa_.call (AW.frozen (j7_ (out.map txt) s1') hA) ?_
  rw [mU_]
  by_cases s2 : bW_ out = bs s
  case neg =>
   have s2' : (txt (bW_ out) = s) = False := by rw [eq_iff_iff, iff_false]; intro e; exact s2 (by rw [← e]; exact (bs_ _).symm)
   simp (disch := omega) only [t0, t4, s2', ao_, go_sem, reduceEqDiff, reduceCtorEq, ↓reduceIte]
   rw [ki_ hR (fun q => s2 q.2.2)]
   exact ⟨_, rfl, b8_ (cU_ (out := []) (E := 9) (by first | (rw [eZ_]; rfl) | (rw [eZ_]; simp)) (by omega)) (by omega) _, _, _, rfl⟩
  have s2' : (txt (bW_ out) = s) = True := by rw [s2, fr_]; simp
  simp (disch := omega) only [t0, t4, s2', ao_, go_sem, reduceEqDiff, reduceCtorEq, ↓reduceIte]
  rw [qO_ hR s1 s2]
  have hz := b8_ (cU_ (base := h0.length) (l := h0.length) (E := 9) (out := out.map txt) (H := h0 ++ ⟨9, 1, cZ_ out⟩ :: rest) (by rw [hl_]; rfl) (Nat.le_refl _)) (by omega) (.bool true)
  rw [List.length_map] at hz
  exact ⟨_, rfl, hz, _, _, rfl⟩
 ·have hpos : 0 < left.length := by cases left with
   | nil => exact absurd rfl q0
   | cons b l => simp
  have q0' : (txt left = txt []) = False := by rw [iF_]; simp [q0]
  by_cases q4 : out.length ≤ 4
  ·have q4' : (out.length : Int) ≤ 4 := by omega
   have e5 : 5 - out.length = (4 - out.length) + 1 := by omega
   rw [e5, kN_ cp_ (4 - out.length) left out q0] at hS
   simp (disch := omega) only [t4, t5, q0', q4', fl, ao_, go_sem, reduceEqDiff, ↓reduceIte]
   have hc := fun h => jW_ left hpos (by omega) h
   cases hn : cp_ left with
   | none =>
    rw [hn, gF_] at hc
    rw [hn] at hS
    refine aa_.call (hc _) ?_
    simp (disch := omega) only [t4, fl, ao_, go_sem, reduceEqDiff, reduceLeDiff, ↓reduceIte]
    rw [pr_ (by rw [hS])]
    exact ⟨_, rfl, b8_ (cU_ (out := []) (E := 9) (by first | (rw [eZ_]; rfl) | (rw [eZ_]; simp)) (by omega)) (by omega) _, _, _, rfl⟩
   | some p =>
    obtain ⟨x, r⟩ := p
    rw [hn, gJ_] at hc
    have hlen := pk_ left x r hn
    rw [hn] at hS
    refine aa_.call (hc _) ?_
    simp (disch := omega) only [t4, fl, ao_, go_sem, reduceEqDiff, reduceLeDiff, ↓reduceIte]
    refine ⟨by omega, by omega, ?_⟩
    try simp (disch := omega) only [t0, t4, t5, q0', q4', fl, ao_, go_sem, reduceEqDiff, Nat.reduceAdd, reduceLeDiff, reduceCtorEq, Int.reduceLT, Int.reduceLE, Int.reduceNeg, Int.reduceSub, Int.reduceAdd, Int.reduceToNat, ↓reduceIte]
    exact ⟨5 - (out.length + 1), by omega, hJ _ _ _ ⟨out ++ [x], r, rest ++ [⟨9, 1, [[.val (.string (txt x))]]⟩], by simp [upd, t0], by simp [upd], by simp [upd], by simp [az_], by simp, by simp; omega, by omega, by simpa [Nat.sub_sub] using hS⟩⟩
  ·have q4' : ¬ (out.length : Int) ≤ 4 := by omega
   have e0 : 5 - out.length = 0 := by omega
   have hR : bX_ cp_ 5 (bs s) [] = some (out, left) := by rw [hS, e0, bX_]
   simp (disch := omega) only [t4, t5, q0', q4', fl, ao_, go_sem, reduceEqDiff, ↓reduceIte]
   rw [ki_ hR (fun q => q0 q.1)]
   exact ⟨_, rfl, b8_ (cU_ (out := []) (E := 9) (by first | (rw [eZ_]; rfl) | (rw [eZ_]; simp)) (by omega)) (by omega) _, _, _, rfl⟩
theorem gy_ (s : ByteArray) (hs : s.size ≤ 1048576) (h : List Row) : aa_ Tryz.prog 67 [.val (.string s)] h (lF_ (cH_ s)) := (h3_ s hs).pure rfl h
def df_ (n : Int) : Bool := decide (n = 0) || decide (n = 1) || decide (n = 10) || decide (n = 11)
def c94 : LC :=
 .q [.o [.f 2], .o [.m 3 0, .bk 4 .eql false 3 0, .m 5 4, .gm 6 5 false 0, .g 7 5 false (.bin .eql false (.tmp 6) (.const (.int .i64 1))), .pt 8 5 7, .m 9 8, .gm 10 9 false 0, .g 11 9 false (.bin .eql false (.tmp 10)
 (.const (.int .i64 10))), .pt 12 9 11, .m 13 12, .gm 14 13 false 0, .g 15 13 false (.bin .eql false (.tmp 14) (.const (.int .i64 11))), .pt 16 13 15, .m 2 16], .ret]
def t4_ : LF := ⟨1, 17, c94, [.tmp 2]⟩
theorem vq_ : av_ prog Tryz.f94 t4_ := ap_
theorem dE_ (n : Int)  (h : List Row) : aa_ prog 94 [.val (.int .i64 n)] h (.val (.bool (df_ n))) := by
 refine an_ mixed Tryz.func94 vq_ rfl rfl ?_ h
 simp (disch := omega) only [t4_, c94, go_sem, reduceCtorEq, ↓reduceIte]
 repeat' (first
  | exact ae_ _ _
  | (refine ac_ ?_; simp [df_, *]; done)
  | simp (disch := omega) only [go_sem, reduceEqDiff, reduceCtorEq, ↓reduceIte]
  | ((first | (apply aL_; assumption) | (apply aK_; assumption) | (apply a0_; assumption) | (apply a1_; assumption)); intro hb; try simp only [hb])
  | ((first | (apply ay_; assumption) | (apply ax_; assumption) | (apply aD_; assumption) | (apply aE_; assumption)); intro hb; try simp only [hb])
  | ((first | apply as_ | apply au_ | apply ak_ | apply al_) <;> intro hb <;> (try simp only [hb]) <;> (first | have hp := aT_ hb | have hp := aS_ hb | have hp := aR_ hb | have hp := aU_ hb | skip)))
def c65 : LC :=
 .q [.o [.f 2], .o [.m 3 0, .bk 4 .eql false 3 0, .m 5 4, .gm 6 5 false 0, .g 7 5 false (.bin .eql false (.tmp 6) (.const (.int .i64 1))), .pt 8 5 7, .m 9 8, .gm 10 9 false 0, .g 11 9 false (.bin .eql false (.tmp 10)
 (.const (.int .i64 10))), .pt 12 9 11, .m 13 12, .gm 14 13 false 0, .g 15 13 false (.bin .eql false (.tmp 14) (.const (.int .i64 11))), .pt 16 13 15, .m 2 16], .ret]
def tS_ : LF := ⟨1, 17, c65, [.tmp 2]⟩
theorem vm_ : av_ prog Tryz.f65 tS_ := ap_
theorem dG_ (n : Int)  (h : List Row) : aa_ prog 65 [.val (.int .i64 n)] h (.val (.bool (df_ n))) := by
 refine an_ mixed Tryz.func65 vm_ rfl rfl ?_ h
 simp (disch := omega) only [tS_, c65, go_sem, reduceCtorEq, ↓reduceIte]
 repeat' (first
  | exact ae_ _ _
  | (refine ac_ ?_; simp [df_, *]; done)
  | simp (disch := omega) only [go_sem, reduceEqDiff, reduceCtorEq, ↓reduceIte]
  | ((first | (apply aL_; assumption) | (apply aK_; assumption) | (apply a0_; assumption) | (apply a1_; assumption)); intro hb; try simp only [hb])
  | ((first | (apply ay_; assumption) | (apply ax_; assumption) | (apply aD_; assumption) | (apply aE_; assumption)); intro hb; try simp only [hb])
  | ((first | apply as_ | apply au_ | apply ak_ | apply al_) <;> intro hb <;> (try simp only [hb]) <;> (first | have hp := aT_ hb | have hp := aS_ hb | have hp := aR_ hb | have hp := aU_ hb | skip)))
def eo_ (s : ByteArray) : Bool := decide (64 < (s.size : Int))
def uM_ : LC :=
 .q [.o [.f 2], .o [.m 3 0, .s 4 (.lenStr (.tmp 3)), .bk 5 .gtr false 4 64, .m 2 5], .ret]
def rI_ : LF := ⟨1, 6, uM_, [.tmp 2]⟩
theorem ui_ : av_ prog Tryz.f126 rI_ := ap_
theorem gu_ (s : ByteArray)  (h : List Row) : aa_ prog 126 [.val (.string s)] h (.val (.bool (eo_ s))) := by
 refine an_ mixed Tryz.func126 ui_ rfl rfl ?_ h
 simp (disch := omega) only [rI_, uM_, go_sem, reduceCtorEq, ↓reduceIte]
 repeat' (first
  | exact ae_ _ _
  | (refine ac_ ?_; first | rfl | (simp only [eo_, *, Bool.and_true, Bool.true_and, Bool.and_false, Bool.false_and, Bool.or_true, Bool.true_or, Bool.or_false, Bool.false_or, Bool.not_true, Bool.not_false, decide_true, decide_false, Bool.and_self, Bool.or_self]; done) | (simp [eo_, *]; done))
  | simp (disch := omega) only [go_sem, reduceEqDiff, Nat.reduceAdd, reduceLeDiff, reduceCtorEq, Int.reduceLT, Int.reduceLE, Int.reduceNeg, Int.reduceSub, Int.reduceAdd, Int.reduceToNat, ↓reduceIte]
  | ((first | (apply ay_; assumption) | (apply ax_; assumption) | (apply aD_; assumption) | (apply aE_; assumption)); intro hb; try simp only [hb])
  | ((first | apply ak_ | apply al_) <;> intro hb <;> (try simp only [hb]) <;> (first | have hp := aT_ hb | have hp := aS_ hb | have hp := aR_ hb | have hp := aU_ hb | skip)))
def c95 : LC :=
 .q [.o [.f 2], .o [.m 3 0, .s 4 (.call 98 [.tmp 3, .func 126]), .m 2 4], .ret]
def uW_ : LF := ⟨1, 5, c95, [.tmp 2]⟩
theorem vY_ : av_ prog Tryz.f95 uW_ := ap_
theorem l6_ (xs : List ByteArray) (hx : xs.length ≤ 1048576) (h : List Row) : aa_ prog 95 [.list 0 1 (xs.map az_)] h (.val (.bool (xs.any eo_))) := by
 refine an_ mixed Tryz.func95 vY_ rfl rfl ?_ h
 simp (disch := omega) only [uW_, c95, go_sem, reduceCtorEq, ↓reduceIte]
 repeat' (first
  | exact ae_ _ _
  | simp (disch := omega) only [go_sem, ↓reduceIte]
  | (refine aa_.call (bE_ _ eo_ 126 hx (by kernel_rfl) (fun x _ h => gu_ x h) _) ?_)
  | (refine aa_.q (bE_ _ eo_ 126 hx (by kernel_rfl) (fun x _ h => gu_ x h) _) ?_)
  | ((first | (apply ay_; assumption) | (apply ax_; assumption) | (apply aD_; assumption) | (apply aE_; assumption)); intro hb; try simp only [hb])
  | ((first | apply ak_ | apply al_) <;> intro hb <;> (try simp only [hb]) <;> (first | have hp := aT_ hb | have hp := aS_ hb | have hp := aR_ hb | have hp := aU_ hb | skip)))
theorem fc_ (s : ByteArray) {H : List Row} (hl : H[1]? = some ⟨9, 1, [[.val (.string s)]]⟩) : aa_ prog 95 [.own 1 1] H (.val (.bool (eo_ s))) := by
 have : aa_ prog 95 [.own 1 1] H (.val (.bool ([s].any eo_))) := AW.frozen (n := 2) (l6_ [s] (by simp)) (mc_ (kc_ (n := 0) hl rfl (by simp [AV.flat])))
 simpa using this
def a6_ (e : ad_) : Bool :=
 if e.Kind = 1 then df_ e.N && !eo_ e.Value && (decide (e.N.tmod 10 = 1) || decide (e.Value = txt []))
 else if e.Kind = 4 then df_ e.N && decide (e.Value = txt [])
 else if e.Kind = 5 then (decide (e.N = 1) || decide (e.N = -1)) && (decide (e.Value = txt []) || bp_ e.Value)
 else if e.Kind = 6 then decide (e.N = 1) && (cH_ e.Value).2 || decide (e.N = 0) && decide (e.Value = txt [])
 else if e.Kind = 2 then decide (e.N = 0) && !eo_ e.Value
 else decide (e.Kind = 3) && decide (e.N = 0) && decide (e.Value = txt [])
def c74 : LC :=
 .q [.o [.bx 1 47 0, .f 2], .q [.o [.fa 5 0 1, .ln 6 5], .block 0 (.q [.o [.bk 8 .eql false 6 1, .m 7 8], .k 7 (.q [.o [.fa 9 4 1, .ln 10 9, .c1 11 94 10, .m 12 11, .gf 13 12 true 3 1, .gn 14 12 true 13, .g 15 12 true
 (.buildSlice 9 1 (.string ⟨#[]⟩) 1 [(0, .tmp 14)]), .gc 16 12 true 95 15, .gu 17 12 true 16, .pf 18 12 17, .m 19 18, .gf 20 19 true 4 1, .gn 21 19 true 20, .g 22 19 true (.bin .rem false (.tmp 21) (.const (.int .i64
 10))), .g 23 19 true (.bin .eql false (.tmp 22) (.const (.int .i64 1))), .gm 24 19 true 23, .gf 25 24 false 3 1, .gn 26 24 false 25, .g 27 24 false (.bin .eql false (.tmp 26) (.const (.string ⟨#[]⟩))), .g 28 19 true
 (.pick (.tmp 24) (.const (.bool true)) (.tmp 27)), .pf 29 19 28, .m 2 29], .ret]) (.q [.o [.bk 31 .eql false 6 4, .m 30 31], .k 30 (.q [.o [.fa 32 4 1, .ln 33 32, .c1 34 94 33, .m 35 34, .gf 36 35 true 3 1, .gn 37 35
 true 36, .g 38 35 true (.bin .eql false (.tmp 37) (.const (.string ⟨#[]⟩))), .pf 39 35 38, .m 2 39], .ret]) (.q [.o [.bk 41 .eql false 6 5, .m 40 41], .k 40 (.q [.o [.fa 42 4 1, .ln 43 42, .bk 44 .eql false 43 1, .m 45
 44, .gf 46 45 false 4 1, .gn 47 45 false 46, .g 48 45 false (.bin .eql false (.tmp 47) (.const (.int .i64 (-1)))), .pt 49 45 48, .m 50 49, .gf 51 50 true 3 1, .gn 52 50 true 51, .g 53 50 true (.bin .eql false (.tmp 52)
 (.const (.string ⟨#[]⟩))), .gm 54 50 true 53, .gf 55 54 false 3 1, .gn 56 54 false 55, .gc 57 54 false 96 56, .g 58 50 true (.pick (.tmp 54) (.const (.bool true)) (.tmp 57)), .pf 59 50 58, .m 2 59], .ret]) (.q [.o [.bk
 61 .eql false 6 6, .m 60 61], .k 60 (.q [.o [.fa 63 3 1, .ln 64 63, .c1 65 97 64, .m 62 65, .ex 66 62 0, .ex 67 62 1, .m 3 66, .m 4 67], .o [.fa 68 4 1, .ln 69 68, .bk 70 .eql false 69 1, .m 71 70, .gm 72 71 true 4, .pf
 73 71 72, .m 74 73, .gf 75 74 false 4 1, .gn 76 74 false 75, .g 77 74 false (.bin .eql false (.tmp 76) (.const (.int .i64 0))), .gm 78 74 false 77, .gf 79 78 true 3 1, .gn 80 78 true 79, .g 81 78 true (.bin .eql false
 (.tmp 80) (.const (.string ⟨#[]⟩))), .g 82 74 false (.pick (.tmp 78) (.tmp 81) (.const (.bool false))), .pt 83 74 82, .m 2 83], .ret]) (.q [.o [.bk 85 .eql false 6 2, .m 84 85], .k 84 (.q [.o [.fa 86 4 1, .ln 87 86, .bk
 88 .eql false 87 0, .m 89 88, .gf 90 89 true 3 1, .gn 91 89 true 90, .g 92 89 true (.buildSlice 9 1 (.string ⟨#[]⟩) 1 [(0, .tmp 91)]), .gc 93 89 true 95 92, .gu 94 89 true 93, .pf 95 89 94, .m 2 95], .ret])
 .skip])])])])])], .o [.fa 96 0 1, .ln 97 96, .bk 98 .eql false 97 3, .m 99 98, .gf 100 99 true 4 1, .gn 101 99 true 100, .g 102 99 true (.bin .eql false (.tmp 101) (.const (.int .i64 0))), .pf 103 99 102, .m 104 103, .gf
 105 104 true 3 1, .gn 106 104 true 105, .g 107 104 true (.bin .eql false (.tmp 106) (.const (.string ⟨#[]⟩))), .pf 108 104 107, .m 2 108], .ret]
def tN_ : LF := ⟨1, 109, c74, [.tmp 2]⟩
theorem vf_ : av_ prog Tryz.f74 tN_ := ap_
theorem eB_ (x : ad_) (hx : ad_.sz x ≤ 1048576) (h : List Row) : aa_ prog 74 [.agg (ad_.cells x)] h (.val (.bool (a6_ x))) := by
 refine an_ mixed Tryz.func74 vf_ rfl rfl ?_ h
 have hv := ad_.sz_Value hx
 simp (disch := omega) only [tN_, c74, ad_.cells, go_sem, reduceEqDiff, Nat.reduceAdd, Int.reduceNeg, ↓reduceIte]
 by_cases k1 : x.Kind = 1
 ·simp (disch := omega) only [k1, go_sem, reduceEqDiff, Int.reduceNeg, ↓reduceIte]
  repeat' (first
   | exact ae_ _ _
   | (refine ac_ ?_; simp [a6_, *]; done)
   | simp (disch := omega) only [go_sem, reduceEqDiff, ↓reduceIte]
   | (refine aa_.call (dE_ _ _) ?_)
   | (refine aa_.q (dE_ _ _) ?_)
   | (refine aa_.call (fc_ x.Value rfl) ?_)
   | (refine aa_.q (fc_ x.Value rfl) ?_)
   | ((first | (apply aL_; assumption) | (apply aK_; assumption) | (apply a0_; assumption) | (apply a1_; assumption)); intro hb; try simp only [hb])
   | ((first | (apply ay_; assumption) | (apply ax_; assumption) | (apply aD_; assumption) | (apply aE_; assumption)); intro hb; try simp only [hb])
   | ((first | apply as_ | apply au_ | apply ak_ | apply al_) <;> intro hb <;> (try simp only [hb]) <;> (first | have hp := aT_ hb | have hp := aS_ hb | have hp := aR_ hb | have hp := aU_ hb | skip)))
 by_cases k4 : x.Kind = 4
 ·simp (disch := omega) only [k4, Int.reduceEq, go_sem, reduceEqDiff, Int.reduceNeg, ↓reduceIte]
  repeat' (first
   | exact ae_ _ _
   | (refine ac_ ?_; simp [a6_, *]; done)
   | simp (disch := omega) only [go_sem, reduceEqDiff, ↓reduceIte]
   | (refine aa_.call (dE_ _ _) ?_)
   | (refine aa_.q (dE_ _ _) ?_)
   | (refine aa_.call (fc_ x.Value rfl) ?_)
   | (refine aa_.q (fc_ x.Value rfl) ?_)
   | ((first | (apply aL_; assumption) | (apply aK_; assumption) | (apply a0_; assumption) | (apply a1_; assumption)); intro hb; try simp only [hb])
   | ((first | (apply ay_; assumption) | (apply ax_; assumption) | (apply aD_; assumption) | (apply aE_; assumption)); intro hb; try simp only [hb])
   | ((first | apply as_ | apply au_ | apply ak_ | apply al_) <;> intro hb <;> (try simp only [hb]) <;> (first | have hp := aT_ hb | have hp := aS_ hb | have hp := aR_ hb | have hp := aU_ hb | skip)))
 by_cases k5 : x.Kind = 5
 ·simp (disch := omega) only [k5, Int.reduceEq, go_sem, reduceEqDiff, Int.reduceNeg, ↓reduceIte]
  repeat' (first
   | exact ae_ _ _
   | (refine ac_ ?_; simp [a6_, *]; done)
   | simp (disch := omega) only [go_sem, reduceEqDiff, Int.reduceNeg, ↓reduceIte]
   | (refine aa_.call (em_ _ _) ?_)
   | (refine aa_.q (em_ _ _) ?_)
   | ((first | (apply aL_; assumption) | (apply aK_; assumption) | (apply a0_; assumption) | (apply a1_; assumption)); intro hb; try simp only [hb])
   | ((first | (apply ay_; assumption) | (apply ax_; assumption) | (apply aD_; assumption) | (apply aE_; assumption)); intro hb; try simp only [hb])
   | ((first | apply as_ | apply au_ | apply ak_ | apply al_) <;> intro hb <;> (try simp only [hb]) <;> (first | have hp := aT_ hb | have hp := aS_ hb | have hp := aR_ hb | have hp := aU_ hb | skip)))
 by_cases k6 : x.Kind = 6
 ·simp (disch := omega) only [k6, Int.reduceEq, go_sem, reduceEqDiff, Int.reduceNeg, ↓reduceIte]
  repeat' (first
   | exact ae_ _ _
   | (refine ac_ ?_; simp [a6_, *]; done)
   | simp (disch := omega) only [go_sem, reduceEqDiff, ↓reduceIte]
   | (refine aa_.call (gh_ _ hv _) ?_)
   | (refine aa_.q (gh_ _ hv _) ?_)
   | ((first | (apply aL_; assumption) | (apply aK_; assumption) | (apply a0_; assumption) | (apply a1_; assumption)); intro hb; try simp only [hb])
   | ((first | (apply ay_; assumption) | (apply ax_; assumption) | (apply aD_; assumption) | (apply aE_; assumption)); intro hb; try simp only [hb])
   | ((first | apply as_ | apply au_ | apply ak_ | apply al_) <;> intro hb <;> (try simp only [hb]) <;> (first | have hp := aT_ hb | have hp := aS_ hb | have hp := aR_ hb | have hp := aU_ hb | skip)))
 by_cases k2 : x.Kind = 2
 ·simp (disch := omega) only [k2, Int.reduceEq, go_sem, reduceEqDiff, Int.reduceNeg, ↓reduceIte]
  repeat' (first
   | exact ae_ _ _
   | (refine ac_ ?_; simp [a6_, *]; done)
   | simp (disch := omega) only [go_sem, reduceEqDiff, ↓reduceIte]
   | (refine aa_.call (fc_ x.Value rfl) ?_)
   | (refine aa_.q (fc_ x.Value rfl) ?_)
   | ((first | (apply aL_; assumption) | (apply aK_; assumption) | (apply a0_; assumption) | (apply a1_; assumption)); intro hb; try simp only [hb])
   | ((first | (apply ay_; assumption) | (apply ax_; assumption) | (apply aD_; assumption) | (apply aE_; assumption)); intro hb; try simp only [hb])
   | ((first | apply as_ | apply au_ | apply ak_ | apply al_) <;> intro hb <;> (try simp only [hb]) <;> (first | have hp := aT_ hb | have hp := aS_ hb | have hp := aR_ hb | have hp := aU_ hb | skip)))
 simp (disch := omega) only [k1, k4, k5, k6, k2, go_sem, reduceEqDiff, Int.reduceNeg, ↓reduceIte]
 repeat' (first
  | exact ae_ _ _
  | (refine ac_ ?_; simp [a6_, *]; done)
  | simp (disch := omega) only [go_sem, reduceEqDiff, ↓reduceIte]
  | ((first | (apply aL_; assumption) | (apply aK_; assumption) | (apply a0_; assumption) | (apply a1_; assumption)); intro hb; try simp only [hb])
  | ((first | (apply ay_; assumption) | (apply ax_; assumption) | (apply aD_; assumption) | (apply aE_; assumption)); intro hb; try simp only [hb])
  | ((first | apply as_ | apply au_ | apply ak_ | apply al_) <;> intro hb <;> (try simp only [hb]) <;> (first | have hp := aT_ hb | have hp := aS_ hb | have hp := aR_ hb | have hp := aU_ hb | skip)))
def dw_ (xs : List ByteArray) : ByteArray := xs.getLastD (txt [])
theorem h8_ (xs : List ByteArray) (h : xs.length - 1 < xs.length) : xs[xs.length - 1] = dw_ xs := by
 have hne : xs ≠ [] := by intro e; subst e; simp at h
 rw [← getLast_eq_getElem hne, dw_, getLastD_eq_getLast?, getLast?_eq_some_getLast hne]; rfl
def bk_ (xs : List ByteArray) : List ByteArray := xs.take (xs.length - 1)
def fp_ (xs : List ByteArray) : Bool := decide (0 < (xs.length : Int)) && (a5_ xs || (decide (dw_ xs = txt []) && a5_ (bk_ xs)))
def c75 : LC :=
 .q [.o [.f 2], .o [.m 4 0, .ll 5 4, .m 3 5], .o [.m 6 3, .bk 7 .gtr false 6 0, .m 8 7, .gm 9 8 true 0, .gc 10 8 true 76 9, .gm 11 8 true 10, .gm 12 11 false 0, .gm 13 11 false 3, .g 14 11 false (.bin .sub false (.tmp 13)
 (.const (.int .i64 1))), .g 15 11 false (.indexAddr 1 (.tmp 12) (.tmp 14)), .gn 16 11 false 15, .g 17 11 false (.bin .eql false (.tmp 16) (.const (.string ⟨#[]⟩))), .gm 18 11 false 17, .gm 19 18 true 0, .gm 20 18 true 3,
 .g 21 18 true (.bin .sub false (.tmp 20) (.const (.int .i64 1))), .g 22 18 true (.sliceSl 1 (.tmp 19) none (some (.tmp 21))), .gc 23 18 true 76 22, .g 24 11 false (.pick (.tmp 18) (.tmp 23) (.const (.bool false))), .g 25
 8 true (.pick (.tmp 11) (.const (.bool true)) (.tmp 24)), .pf 26 8 25, .m 2 26], .ret]
def q9_ : LF := ⟨1, 27, c75, [.tmp 2]⟩
theorem u9_ : av_ prog Tryz.f75 q9_ := ap_
theorem fG_ (xs : List ByteArray) (hx : xs.length ≤ 1048576) (h : List Row) : aa_ prog 75 [.list 0 1 (xs.map az_)] h (.val (.bool (fp_ xs))) := by
 refine an_ mixed Tryz.func75 u9_ rfl rfl ?_ h
 by_cases h0 : xs.length = 0
 ·have h0' : ((0 : Int) < xs.length) = False := eq_false (by omega)
  simp (disch := omega) only [q9_, c75, h0', go_sem, reduceEqDiff, reduceCtorEq, ↓reduceIte]
  exact ac_ (by simp [fp_, h0])
 ·have h0' : ((0 : Int) < xs.length) = True := eq_true (by omega)
  have hsub : ((xs.length : Int) - 1) = ((xs.length - 1 : Nat) : Int) := by omega
  have hlt : xs.length - 1 < xs.length := by omega
  have hfr : xs.take (xs.length - 1) = bk_ xs := rfl
  have hfl : (bk_ xs).length ≤ 1048576 := by rw [bk_, length_take]; omega
  have hw : IntKind.i64.wrap ((xs.length : Int) - 1) = ((xs.length - 1 : Nat) : Int) := by rw [aq_ (n := (xs.length : Int) - 1) (by omega) (by omega)]; omega
  simp (disch := omega) only [q9_, c75, h0', go_sem, reduceEqDiff, reduceCtorEq, ↓reduceIte]
  repeat' (first
   | exact ae_ _ _
   | (refine ac_ ?_; simp only [fp_, *, Bool.true_and, Bool.and_false, Bool.false_and, Bool.true_or, Bool.false_or, decide_true, Bool.and_self, Bool.or_self]; done)
   | simp (disch := omega) only [hw, fx_, hfr, h8_, az_, go_sem, reduceEqDiff, reduceCtorEq, ↓reduceIte]
   | (refine aa_.call (bL_ _ hx _) ?_)
   | (refine aa_.q (bL_ _ hx _) ?_)
   | (refine aa_.call (bL_ _ hfl _) ?_)
   | (refine aa_.q (bL_ _ hfl _) ?_)
   | ((first | (apply aL_; assumption) | (apply aK_; assumption) | (apply a0_; assumption) | (apply a1_; assumption)); intro hb; try simp only [hb])
   | ((first | (apply ay_; assumption) | (apply ax_; assumption) | (apply aD_; assumption) | (apply aE_; assumption)); intro hb; try simp only [hb])
   | ((first | apply as_ | apply au_ | apply ak_ | apply al_) <;> intro hb <;> (try simp only [hb]) <;> (first | have hp := aT_ hb | have hp := aS_ hb | have hp := aR_ hb | have hp := aU_ hb | skip)))
def bo_ (x : ad_) : Bool := bJ_ x.Name && a6_ x && (if x.Kind = 5 then decide ((x.Subs.length : Int) ≤ 4) && fp_ x.Subs else a5_ x.Subs)
def c46 : LC :=
 .q [.o [.bx 1 47 0, .f 2], .q [.o [.fa 3 1 1, .ln 4 3, .c1 5 73 4, .nt 6 5, .m 7 6, .gl 8 7 false 5 1, .gc 9 7 false 74 8, .gu 10 7 false 9, .pt 11 7 10], .k 11 (.q [.o [.f 2], .ret]) .skip], .q [.o [.fa 12 0 1, .ln 13
 12, .bk 14 .eql false 13 5], .k 14 (.q [.o [.fa 15 2 1, .ln 16 15, .ll 17 16, .bk 18 .leq false 17 4, .m 19 18, .gf 20 19 true 2 1, .gn 21 19 true 20, .gc 22 19 true 75 21, .pf 23 19 22, .m 2 23], .ret]) .skip], .o [.fa
 24 2 1, .ln 25 24, .c1 26 76 25, .m 2 26], .ret]
def qE_ : LF := ⟨1, 27, c46, [.tmp 2]⟩
theorem vu_ : av_ prog Tryz.f46 qE_ := ap_
theorem eV_ (x : ad_) (hx : ad_.sz x ≤ 1048576) (h : List Row) : aa_ prog 46 [.agg (ad_.cells x)] h (.val (.bool (bo_ x))) := by
 refine an_ mixed Tryz.func46 vu_ rfl rfl ?_ h
 have h1 := ad_.sz_Name hx
 have h2 := b1_ (ad_.sz_Subs hx)
 by_cases k5 : x.Kind = 5
 ·simp (disch := omega) only [qE_, c46, ad_.cells, k5, go_sem, reduceEqDiff, Nat.reduceAdd, ↓reduceIte]
  have hN : bo_ x = (bJ_ x.Name && a6_ x && (decide ((x.Subs.length : Int) ≤ 4) && fp_ x.Subs)) := by rw [bo_, if_pos k5]
  have hR := fun h => eB_ x hx h
  simp only [ad_.cells, k5] at hR
  repeat' (first
   | exact ae_ _ _
   | (refine ac_ ?_; rw [hN]; simp only [*, Bool.true_and, Bool.and_false, Bool.false_and, decide_true, decide_false, Bool.and_self]; done)
   | simp (disch := omega) only [go_sem, reduceEqDiff, Nat.reduceAdd, ↓reduceIte]
   | (refine aa_.call (d2_ _ h1 _) ?_)
   | (refine aa_.q (d2_ _ h1 _) ?_)
   | (refine aa_.call (hR _) ?_)
   | (refine aa_.q (hR _) ?_)
   | (refine aa_.call (fG_ _ h2 _) ?_)
   | (refine aa_.q (fG_ _ h2 _) ?_)
   | ((first | (apply aL_; assumption) | (apply aK_; assumption) | (apply a0_; assumption) | (apply a1_; assumption)); intro hb; try simp only [hb])
   | ((first | (apply ay_; assumption) | (apply ax_; assumption) | (apply aD_; assumption) | (apply aE_; assumption)); intro hb; try simp only [hb])
   | ((first | apply as_ | apply au_ | apply ak_ | apply al_) <;> intro hb <;> (try simp only [hb]) <;> (first | have hp := aT_ hb | have hp := aS_ hb | have hp := aR_ hb | have hp := aU_ hb | skip)))
 ·have hN : bo_ x = (bJ_ x.Name && a6_ x && a5_ x.Subs) := by rw [bo_, if_neg k5]
  simp (disch := omega) only [qE_, c46, ad_.cells, go_sem, reduceEqDiff, Nat.reduceAdd, ↓reduceIte]
  repeat' (first
   | exact ae_ _ _
   | (refine ac_ ?_; rw [hN]; simp only [*, Bool.true_and, Bool.and_false, Bool.false_and, Bool.and_self]; done)
   | simp (disch := omega) only [k5, go_sem, reduceEqDiff, Nat.reduceAdd, ↓reduceIte]
   | (refine aa_.call (d2_ _ h1 _) ?_)
   | (refine aa_.q (d2_ _ h1 _) ?_)
   | (refine aa_.call (eB_ x hx _) ?_)
   | (refine aa_.q (eB_ x hx _) ?_)
   | (refine aa_.call (bL_ _ h2 _) ?_)
   | (refine aa_.q (bL_ _ h2 _) ?_)
   | ((first | (apply aL_; assumption) | (apply aK_; assumption) | (apply a0_; assumption) | (apply a1_; assumption)); intro hb; try simp only [hb])
   | ((first | (apply ay_; assumption) | (apply ax_; assumption) | (apply aD_; assumption) | (apply aE_; assumption)); intro hb; try simp only [hb])
   | ((first | apply as_ | apply au_ | apply ak_ | apply al_) <;> intro hb <;> (try simp only [hb]) <;> (first | have hp := aT_ hb | have hp := aS_ hb | have hp := aR_ hb | have hp := aU_ hb | skip)))
def b4_ (x : ad_) : Bool := decide (x.Kind = 1) || decide (x.Kind = 4) || decide (x.Kind = 5) || decide (x.Kind = 6)
def bO_ (x : ad_) : Bool := decide (x.Kind = 2) || decide (x.Kind = 3)
def c62 : LC :=
 .q [.o [.bx 1 47 0, .f 2], .o [.fa 3 0 1, .ln 4 3, .bk 5 .eql false 4 1, .m 6 5, .gf 7 6 false 0 1, .gn 8 6 false 7, .g 9 6 false (.bin .eql false (.tmp 8) (.const (.int .i64 4))), .pt 10 6 9, .m 11 10, .gf 12 11 false 0
 1, .gn 13 11 false 12, .g 14 11 false (.bin .eql false (.tmp 13) (.const (.int .i64 5))), .pt 15 11 14, .m 16 15, .gf 17 16 false 0 1, .gn 18 16 false 17, .g 19 16 false (.bin .eql false (.tmp 18) (.const (.int .i64
 6))), .pt 20 16 19, .m 2 20], .ret]
def tx_ : LF := ⟨1, 21, c62, [.tmp 2]⟩
theorem va_ : av_ prog Tryz.f62 tx_ := ap_
theorem jN_ (x : ad_)  (h : List Row) : aa_ prog 62 [.agg (ad_.cells x)] h (.val (.bool (b4_ x))) := by
 refine an_ mixed Tryz.func62 va_ rfl rfl ?_ h
 simp (disch := omega) only [tx_, c62, ad_.cells, go_sem, reduceEqDiff, Nat.reduceAdd, ↓reduceIte]
 repeat' (first
  | exact ae_ _ _
  | (refine ac_ ?_; simp [b4_, *]; done)
  | simp (disch := omega) only [go_sem, reduceEqDiff, ↓reduceIte]
  | ((first | (apply aL_; assumption) | (apply aK_; assumption) | (apply a0_; assumption) | (apply a1_; assumption)); intro hb; try simp only [hb])
  | ((first | (apply ay_; assumption) | (apply ax_; assumption) | (apply aD_; assumption) | (apply aE_; assumption)); intro hb; try simp only [hb])
  | ((first | apply as_ | apply au_ | apply ak_ | apply al_) <;> intro hb <;> (try simp only [hb]) <;> (first | have hp := aT_ hb | have hp := aS_ hb | have hp := aR_ hb | have hp := aU_ hb | skip)))
def c63 : LC :=
 .q [.o [.bx 1 47 0, .f 2], .o [.fa 3 0 1, .ln 4 3, .bk 5 .eql false 4 2, .m 6 5, .gf 7 6 false 0 1, .gn 8 6 false 7, .g 9 6 false (.bin .eql false (.tmp 8) (.const (.int .i64 3))), .pt 10 6 9, .m 2 10], .ret]
def uc_ : LF := ⟨1, 11, c63, [.tmp 2]⟩
theorem vV_ : av_ prog Tryz.f63 uc_ := ap_
theorem cS_ (x : ad_)  (h : List Row) : aa_ prog 63 [.agg (ad_.cells x)] h (.val (.bool (bO_ x))) := by
 refine an_ mixed Tryz.func63 vV_ rfl rfl ?_ h
 simp (disch := omega) only [uc_, c63, ad_.cells, go_sem, reduceEqDiff, Nat.reduceAdd, ↓reduceIte]
 repeat' (first
  | exact ae_ _ _
  | (refine ac_ ?_; simp [bO_, *]; done)
  | simp (disch := omega) only [go_sem, reduceEqDiff, ↓reduceIte]
  | ((first | (apply aL_; assumption) | (apply aK_; assumption) | (apply a0_; assumption) | (apply a1_; assumption)); intro hb; try simp only [hb])
  | ((first | (apply ay_; assumption) | (apply ax_; assumption) | (apply aD_; assumption) | (apply aE_; assumption)); intro hb; try simp only [hb])
  | ((first | apply as_ | apply au_ | apply ak_ | apply al_) <;> intro hb <;> (try simp only [hb]) <;> (first | have hp := aT_ hb | have hp := aS_ hb | have hp := aR_ hb | have hp := aU_ hb | skip)))
def c77 : LC :=
 .q [.o [.bx 1 47 0, .f 2], .o [.fa 3 0 1, .ln 4 3, .bk 5 .eql false 4 2, .m 6 5, .gf 7 6 false 0 1, .gn 8 6 false 7, .g 9 6 false (.bin .eql false (.tmp 8) (.const (.int .i64 3))), .pt 10 6 9, .m 2 10], .ret]
def un_ : LF := ⟨1, 11, c77, [.tmp 2]⟩
theorem vX_ : av_ prog Tryz.f77 un_ := ap_
theorem dF_ (x : ad_)  (h : List Row) : aa_ prog 77 [.agg (ad_.cells x)] h (.val (.bool (bO_ x))) := by
 refine an_ mixed Tryz.func77 vX_ rfl rfl ?_ h
 simp (disch := omega) only [un_, c77, ad_.cells, go_sem, reduceEqDiff, Nat.reduceAdd, ↓reduceIte]
 repeat' (first
  | exact ae_ _ _
  | (refine ac_ ?_; simp [bO_, *]; done)
  | simp (disch := omega) only [go_sem, reduceEqDiff, ↓reduceIte]
  | ((first | (apply aL_; assumption) | (apply aK_; assumption) | (apply a0_; assumption) | (apply a1_; assumption)); intro hb; try simp only [hb])
  | ((first | (apply ay_; assumption) | (apply ax_; assumption) | (apply aD_; assumption) | (apply aE_; assumption)); intro hb; try simp only [hb])
  | ((first | apply as_ | apply au_ | apply ak_ | apply al_) <;> intro hb <;> (try simp only [hb]) <;> (first | have hp := aT_ hb | have hp := aS_ hb | have hp := aR_ hb | have hp := aU_ hb | skip)))
def bM_ (x : ad_) : Bool := bJ_ x.Name && (if x.Kind = 5 then decide (0 < (x.Subs.length : Int)) && decide ((x.Subs.length : Int) ≤ 4) && a5_ (bk_ x.Subs) && (decide (dw_ x.Subs = txt []) || bp_ (dw_ x.Subs)) else a5_ x.Subs)
def c64 : LC :=
 .q [.o [.bx 1 47 0, .f 2], .q [.o [.fa 4 1 1, .ln 5 4, .c1 6 85 5, .nt 7 6], .k 7 (.q [.o [.f 2], .ret]) .skip], .q [.o [.fa 8 0 1, .ln 9 8, .bk 10 .neq false 9 5], .k 10 (.q [.o [.fa 11 2 1, .ln 12 11, .c1 13 68 12, .m
 2 13], .ret]) .skip], .o [.fa 14 2 1, .ln 15 14, .ll 16 15, .m 3 16], .q [.o [.m 17 3, .bk 18 .lss false 17 1, .m 19 18, .gm 20 19 false 3, .g 21 19 false (.bin .gtr false (.tmp 20) (.const (.int .i64 4))), .pt 22 19 21,
 .m 23 22, .gf 24 23 false 2 1, .gn 25 23 false 24, .gm 26 23 false 3, .g 27 23 false (.bin .sub false (.tmp 26) (.const (.int .i64 1))), .g 28 23 false (.sliceSl 1 (.tmp 25) none (some (.tmp 27))), .gc 29 23 false 68 28,
 .gu 30 23 false 29, .pt 31 23 30], .k 31 (.q [.o [.f 2], .ret]) .skip], .o [.fa 32 2 1, .ln 33 32, .m 34 3, .bk 35 .sub false 34 1, .ia 36 1 33 35, .ln 37 36, .s 38 (.bin .eql false (.tmp 37) (.const (.string ⟨#[]⟩))),
 .m 39 38, .gf 40 39 false 2 1, .gn 41 39 false 40, .gm 42 39 false 3, .g 43 39 false (.bin .sub false (.tmp 42) (.const (.int .i64 1))), .g 44 39 false (.indexAddr 1 (.tmp 41) (.tmp 43)), .gn 45 39 false 44, .gc 46 39
 false 66 45, .pt 47 39 46, .m 2 47], .ret]
def l7_ : LF := ⟨1, 48, c64, [.tmp 2]⟩
theorem vL_ : av_ prog Tryz.f64 l7_ := ap_
theorem iX_ (x : ad_) (hx : ad_.sz x ≤ 1048576) (h : List Row) : aa_ prog 64 [.agg (ad_.cells x)] h (.val (.bool (bM_ x))) := by
 refine an_ mixed Tryz.func64 vL_ rfl rfl ?_ h
 have h1 := ad_.sz_Name hx
 have h2 := b1_ (ad_.sz_Subs hx)
 by_cases k5 : x.Kind = 5
 case neg =>
  have hN : bM_ x = (bJ_ x.Name && a5_ x.Subs) := by rw [bM_, if_neg k5]
  simp (disch := omega) only [l7_, c64, ad_.cells, go_sem, reduceEqDiff, Nat.reduceAdd, ↓reduceIte]
  repeat' (first
   | exact ae_ _ _
   | (refine ac_ ?_; rw [hN]; simp only [*, Bool.true_and, Bool.false_and]; done)
   | simp (disch := omega) only [k5, go_sem, reduceEqDiff, ↓reduceIte]
   | (refine aa_.call (bU_ _ h1 _) ?_)
   | (refine aa_.q (bU_ _ h1 _) ?_)
   | (refine aa_.call (cu_ _ h2 _) ?_)
   | (refine aa_.q (cu_ _ h2 _) ?_)
   | ((first | (apply aL_; assumption) | (apply aK_; assumption) | (apply a0_; assumption) | (apply a1_; assumption)); intro hb; try simp only [hb])
   | ((first | (apply ay_; assumption) | (apply ax_; assumption) | (apply aD_; assumption) | (apply aE_; assumption)); intro hb; try simp only [hb])
   | ((first | apply as_ | apply au_ | apply ak_ | apply al_) <;> intro hb <;> (try simp only [hb]) <;> (first | have hp := aT_ hb | have hp := aS_ hb | have hp := aR_ hb | have hp := aU_ hb | skip)))
 have hN : bM_ x = (bJ_ x.Name && (decide (0 < (x.Subs.length : Int)) && decide ((x.Subs.length : Int) ≤ 4) && a5_ (bk_ x.Subs) && (decide (dw_ x.Subs = txt []) || bp_ (dw_ x.Subs)))) := by rw [bM_, if_pos k5]
 by_cases h0 : x.Subs.length = 0
 ·have h0' : ((0 : Int) < x.Subs.length) = False := eq_false (by omega)
  have h0'' : ((x.Subs.length : Int) < 1) = True := eq_true (by omega)
  simp (disch := omega) only [l7_, c64, ad_.cells, k5, go_sem, reduceEqDiff, Nat.reduceAdd, ↓reduceIte]
  repeat' (first
   | exact ae_ _ _
   | (refine ac_ ?_; rw [hN]; simp [h0]; done)
   | (refine ac_ ?_; rw [hN]; simp only [*, Bool.and_true, Bool.true_and, Bool.and_false, Bool.false_and, Bool.or_true, Bool.true_or, Bool.or_false, Bool.false_or, Bool.not_true, Bool.not_false, decide_true, decide_false, Bool.and_self, Bool.or_self]; done)
   | simp (disch := omega) only [h0'', go_sem, reduceEqDiff, ↓reduceIte]
   | (refine aa_.call (bU_ _ h1 _) ?_)
   | (refine aa_.q (bU_ _ h1 _) ?_)
   | ((first | (apply aL_; assumption) | (apply aK_; assumption) | (apply a0_; assumption) | (apply a1_; assumption)); intro hb; try simp only [hb])
   | ((first | (apply ay_; assumption) | (apply ax_; assumption) | (apply aD_; assumption) | (apply aE_; assumption)); intro hb; try simp only [hb])
   | ((first | apply as_ | apply au_ | apply ak_ | apply al_) <;> intro hb <;> (try simp only [hb]) <;> (first | have hp := aT_ hb | have hp := aS_ hb | have hp := aR_ hb | have hp := aU_ hb | skip)))
 ·have h0' : ((0 : Int) < x.Subs.length) = True := eq_true (by omega)
  have h0'' : ((x.Subs.length : Int) < 1) = False := eq_false (by omega)
  have hlt : x.Subs.length - 1 < x.Subs.length := by omega
  have hfr : x.Subs.take (x.Subs.length - 1) = bk_ x.Subs := rfl
  have hfl : (bk_ x.Subs).length ≤ 1048576 := by rw [bk_, length_take]; omega
  have hw : IntKind.i64.wrap ((x.Subs.length : Int) - 1) = ((x.Subs.length - 1 : Nat) : Int) := by rw [aq_ (n := (x.Subs.length : Int) - 1) (by omega) (by omega)]; omega
  by_cases q4 : (x.Subs.length : Int) ≤ 4
  ·have q4' : ((4 : Int) < x.Subs.length) = False := eq_false (by omega)
   simp (disch := omega) only [l7_, c64, ad_.cells, k5, go_sem, reduceEqDiff, Nat.reduceAdd, ↓reduceIte]
   repeat' (first
    | exact ae_ _ _
    | (refine ac_ ?_; rw [hN]; simp only [*, Bool.true_and, Bool.and_false, Bool.false_and, Bool.true_or, Bool.false_or, decide_true, Bool.and_self]; done)
    | simp (disch := omega) only [h0'', q4', hw, fx_, hfr, h8_, az_, go_sem, reduceEqDiff, ↓reduceIte]
    | (refine aa_.call (bU_ _ h1 _) ?_)
    | (refine aa_.q (bU_ _ h1 _) ?_)
    | (refine aa_.call (cu_ _ hfl _) ?_)
    | (refine aa_.q (cu_ _ hfl _) ?_)
    | (refine aa_.call (en_ _ _) ?_)
    | (refine aa_.q (en_ _ _) ?_)
    | ((first | (apply aL_; assumption) | (apply aK_; assumption) | (apply a0_; assumption) | (apply a1_; assumption)); intro hb; try simp only [hb])
    | ((first | (apply ay_; assumption) | (apply ax_; assumption) | (apply aD_; assumption) | (apply aE_; assumption)); intro hb; try simp only [hb])
    | ((first | apply as_ | apply au_ | apply ak_ | apply al_) <;> intro hb <;> (try simp only [hb]) <;> (first | have hp := aT_ hb | have hp := aS_ hb | have hp := aR_ hb | have hp := aU_ hb | skip)))
  ·have q4' : ((4 : Int) < x.Subs.length) = True := eq_true (by omega)
   simp (disch := omega) only [l7_, c64, ad_.cells, k5, go_sem, reduceEqDiff, Nat.reduceAdd, ↓reduceIte]
   repeat' (first
    | exact ae_ _ _
    | (refine ac_ ?_; rw [hN]; simp only [*, Bool.and_false, Bool.false_and, decide_true, decide_false, Bool.and_self]; done)
    | simp (disch := omega) only [h0'', q4', go_sem, reduceEqDiff, ↓reduceIte]
    | (refine aa_.call (bU_ _ h1 _) ?_)
    | (refine aa_.q (bU_ _ h1 _) ?_)
    | ((first | (apply aL_; assumption) | (apply aK_; assumption) | (apply a0_; assumption) | (apply a1_; assumption)); intro hb; try simp only [hb])
    | ((first | (apply ay_; assumption) | (apply ax_; assumption) | (apply aD_; assumption) | (apply aE_; assumption)); intro hb; try simp only [hb])
    | ((first | apply as_ | apply au_ | apply ak_ | apply al_) <;> intro hb <;> (try simp only [hb]) <;> (first | have hp := aT_ hb | have hp := aS_ hb | have hp := aR_ hb | have hp := aU_ hb | skip)))
theorem k4_ (s : ByteArray) : (!eo_ s) = decide ((s.size : Int) ≤ 64) := by
 rw [eo_, Bool.eq_iff_iff]; simp only [Bool.not_eq_true', decide_eq_false_iff_not, decide_eq_true_eq]; omega
theorem o4_ (xs : List ByteArray) (x : ByteArray) : a5_ (xs ++ [x]) = (decide ((xs.length : Int) + 1 ≤ 4) && (xs.all bp_ && bp_ x)) := by
 simp [a5_]
theorem n9_ (xs : List ByteArray) (h : 0 < xs.length) : xs = bk_ xs ++ [dw_ xs] := by
 have hlt : xs.length - 1 < xs.length := by omega
 rw [← h8_ xs hlt, bk_]
 conv => lhs; rw [← take_append_drop (xs.length - 1) xs]
 congr 1
 rw [drop_eq_getElem_cons hlt, drop_eq_nil_of_le (by omega)]
theorem oV_ (xs : List ByteArray) : (decide ((xs.length : Int) ≤ 4) && fp_ xs) = (decide (0 < (xs.length : Int)) && decide ((xs.length : Int) ≤ 4) && a5_ (bk_ xs) && (decide (dw_ xs = txt []) || bp_ (dw_ xs))) := by
 by_cases h0 : 0 < xs.length
 case neg =>
  have : xs.length = 0 := by omega
  simp [fp_, this]
 have hs : a5_ xs = (decide ((xs.length : Int) ≤ 4) && ((bk_ xs).all bp_ && bp_ (dw_ xs))) := by
  have e := n9_ xs h0
  have hl : ((bk_ xs).length : Int) + 1 = xs.length := by rw [bk_, length_take]; omega
  conv => lhs; rw [e]
  rw [o4_, hl]
 have hf : a5_ (bk_ xs) = (decide (((bk_ xs).length : Int) ≤ 4) && (bk_ xs).all bp_) := rfl
 have hl : ((bk_ xs).length : Int) = xs.length - 1 := by rw [bk_, length_take]; omega
 rw [fp_, hs, hf, hl]
 have h1 : decide (0 < (xs.length : Int)) = true := by simp; omega
 rw [h1]
 by_cases h4 : (xs.length : Int) ≤ 4
 ·have h5 : decide ((xs.length : Int) - 1 ≤ 4) = true := by simp; omega
  have h4' : decide ((xs.length : Int) ≤ 4) = true := by simpa using h4
  rw [h4', h5]
  cases (bk_ xs).all bp_ <;> cases bp_ (dw_ xs) <;> cases decide (dw_ xs = txt []) <;> rfl
 ·have h4' : decide ((xs.length : Int) ≤ 4) = false := by simpa using h4
  rw [h4']; rfl
theorem nf_ {x : ad_} (k5 : ¬ x.Kind = 5) : bM_ x = (bJ_ x.Name && a5_ x.Subs) := by rw [bM_, if_neg k5]
theorem pb_ {x : ad_} (k5 : ¬ x.Kind = 5) : bo_ x = (bM_ x && a6_ x) := by
 rw [bo_, if_neg k5, nf_ k5]; cases bJ_ x.Name <;> cases a6_ x <;> cases a5_ x.Subs <;> rfl
theorem n8_ {x : ad_} (k5 : x.Kind = 5) : bo_ x = (bM_ x && a6_ x) := by
 rw [bo_, if_pos k5, bM_, if_pos k5, oV_]
 generalize (decide (0 < (x.Subs.length : Int)) && decide ((x.Subs.length : Int) ≤ 4) && a5_ (bk_ x.Subs) && (decide (dw_ x.Subs = txt []) || bp_ (dw_ x.Subs))) = q
 cases bJ_ x.Name <;> cases a6_ x <;> cases q <;> rfl
theorem cq_ (x : ad_) : bo_ x = (bM_ x && a6_ x) := by
 by_cases k5 : x.Kind = 5
 ·exact n8_ k5
 ·exact pb_ k5
theorem wb_ {x : ad_} (k : x.Kind = 1) : a6_ x = (decide ((x.Value.size : Int) ≤ 64) && df_ x.N && (decide (x.N.tmod 10 = 1) || decide (x.Value = txt []))) := by
 rw [a6_, if_pos k, k4_]; rw [Bool.and_comm (df_ x.N)]
theorem wd_ {x : ad_} (k : x.Kind = 4) : a6_ x = (df_ x.N && decide (x.Value = txt [])) := by
 rw [a6_, if_neg (by omega), if_pos k]
theorem wl_ {x : ad_} (k : x.Kind = 5) : a6_ x = ((decide (x.Value = txt []) || bp_ x.Value) && (decide (x.N = 1) || decide (x.N = -1))) := by
 rw [a6_, if_neg (by omega), if_neg (by omega), if_pos k, Bool.and_comm]
theorem k8_ (s : ByteArray) : a5_ (cH_ s).1 = true := by
 rw [cH_]
 cases h : ey_ cE_ (bs s) with
 | none => rfl
 | some xs => simp only; rw [c2_]; exact ((fW_ ic_ (bs s) xs).1 h).1
theorem tL_ {x : ad_} (k : x.Kind = 6) : a6_ x = if x.N = 0 then decide (x.Value = txt []) else decide (x.N = 1) && (cH_ x.Value).2 := by
 rw [a6_, if_neg (by omega), if_neg (by omega), if_neg (by omega), if_pos k]
 by_cases h : x.N = 0
 ·rw [if_pos h, h]; simp
 ·rw [if_neg h]; simp [h]
theorem wi_ {x : ad_} (k : x.Kind = 2) : a6_ x = (decide ((x.Value.size : Int) ≤ 64) && decide (x.N = 0)) := by
 rw [a6_, if_neg (by omega), if_neg (by omega), if_neg (by omega), if_neg (by omega), if_pos k, k4_, Bool.and_comm]
theorem wf_ {x : ad_} (k : x.Kind = 3) : a6_ x = (decide (x.Value = txt []) && decide (x.N = 0)) := by
 rw [a6_, if_neg (by omega), if_neg (by omega), if_neg (by omega), if_neg (by omega), if_neg (by omega)]
 simp [k, Bool.and_comm]
theorem wn_ {x : ad_} (k1 : ¬ x.Kind = 1) (k4 : ¬ x.Kind = 4) (k5 : ¬ x.Kind = 5) (k6 : ¬ x.Kind = 6) (k2 : ¬ x.Kind = 2) (k3 : ¬ x.Kind = 3) : a6_ x = false := by
 simp [a6_, *]
theorem rz_ (s : ByteArray) : (cH_ s).1.length ≤ 1048576 := by
 have := (hA_ (k8_ s)).1; omega
def c40 : LC :=
 .q [.o [.bx 1 47 0, .f 2], .q [.o [.ld 5 5 1, .c1 6 62 5, .nt 7 6, .m 8 7, .gl 9 8 true 5 1, .gc 10 8 true 63 9, .gu 11 8 true 10, .pf 12 8 11, .m 13 12, .gl 14 13 false 5 1, .gc 15 13 false 64 14, .gu 16 13 false 15,
 .pt 17 13 16], .k 17 (.q [.o [.f 2], .ret]) .skip], .q [.o [.fa 18 0 1, .ln 19 18], .block 0 (.q [.o [.bk 21 .eql false 19 1, .m 20 21], .k 20 (.q [.o [.fa 22 3 1, .ln 23 22, .s 24 (.lenStr (.tmp 23)), .bk 25 .leq false
 24 64, .m 26 25, .gf 27 26 true 4 1, .gn 28 26 true 27, .gc 29 26 true 65 28, .pf 30 26 29, .m 31 30, .gf 32 31 true 4 1, .gn 33 31 true 32, .g 34 31 true (.bin .rem false (.tmp 33) (.const (.int .i64 10))), .g 35 31
 true (.bin .eql false (.tmp 34) (.const (.int .i64 1))), .gm 36 31 true 35, .gf 37 36 false 3 1, .gn 38 36 false 37, .g 39 36 false (.bin .eql false (.tmp 38) (.const (.string ⟨#[]⟩))), .g 40 31 true (.pick (.tmp 36)
 (.const (.bool true)) (.tmp 39)), .pf 41 31 40, .m 2 41], .ret]) (.q [.o [.bk 43 .eql false 19 4, .m 42 43], .k 42 (.q [.o [.fa 44 4 1, .ln 45 44, .c1 46 65 45, .m 47 46, .gf 48 47 true 3 1, .gn 49 47 true 48, .g 50 47
 true (.bin .eql false (.tmp 49) (.const (.string ⟨#[]⟩))), .pf 51 47 50, .m 2 51], .ret]) (.q [.o [.bk 53 .eql false 19 5, .m 52 53], .k 52 (.q [.o [.fa 54 3 1, .ln 55 54, .s 56 (.bin .eql false (.tmp 55) (.const
 (.string ⟨#[]⟩))), .m 57 56, .gf 58 57 false 3 1, .gn 59 57 false 58, .gc 60 57 false 66 59, .pt 61 57 60, .m 62 61, .gf 63 62 true 4 1, .gn 64 62 true 63, .g 65 62 true (.bin .eql false (.tmp 64) (.const (.int .i64
 1))), .gm 66 62 true 65, .gf 67 66 false 4 1, .gn 68 66 false 67, .g 69 66 false (.bin .eql false (.tmp 68) (.const (.int .i64 (-1)))), .g 70 62 true (.pick (.tmp 66) (.const (.bool true)) (.tmp 69)), .pf 71 62 70, .m 2
 71], .ret]) (.q [.o [.bk 73 .eql false 19 6, .m 72 73], .k 72 (.q [.q [.o [.fa 74 4 1, .ln 75 74, .bk 76 .eql false 75 0], .k 76 (.q [.o [.fa 77 3 1, .ln 78 77, .s 79 (.bin .eql false (.tmp 78) (.const (.string ⟨#[]⟩))),
 .m 2 79], .ret]) .skip], .o [.fa 81 3 1, .ln 82 81, .c1 83 67 82, .m 80 83, .ex 84 80 0, .ex 85 80 1, .m 3 84, .m 4 85], .o [.fa 86 4 1, .ln 87 86, .bk 88 .eql false 87 1, .m 89 88, .gm 90 89 true 4, .pf 91 89 90, .m 92
 91, .gm 93 92 true 3, .gc 94 92 true 68 93, .pf 95 92 94, .m 2 95], .ret]) (.q [.o [.bk 97 .eql false 19 2, .m 96 97], .k 96 (.q [.o [.fa 98 3 1, .ln 99 98, .s 100 (.lenStr (.tmp 99)), .bk 101 .leq false 100 64, .m 102
 101, .gf 103 102 true 4 1, .gn 104 102 true 103, .g 105 102 true (.bin .eql false (.tmp 104) (.const (.int .i64 0))), .pf 106 102 105, .m 2 106], .ret]) .skip])])])])])], .o [.fa 107 3 1, .ln 108 107, .s 109 (.bin .eql
 false (.tmp 108) (.const (.string ⟨#[]⟩))), .m 110 109, .gf 111 110 true 4 1, .gn 112 110 true 111, .g 113 110 true (.bin .eql false (.tmp 112) (.const (.int .i64 0))), .pf 114 110 113, .m 2 114], .ret]
def ha_ : LF := ⟨1, 115, c40, [.tmp 2]⟩
theorem v1_ : av_ Tryz.prog Tryz.f40 ha_ := ap_
theorem ef_ (x : ad_) (hx : ad_.sz x ≤ 1048576) (h : List Row) : aa_ Tryz.prog 40 [.agg (ad_.cells x)] h (.val (.bool (bo_ x))) := by
 refine an_ mixed Tryz.func40 v1_ rfl rfl ?_ h
 have hv := ad_.sz_Value hx
 have hW := fun h => iX_ x hx h
 have hRd := fun h => jN_ x h
 have hTn := fun h => cS_ x h
 have hq := rz_ x.Value
 have hqs := k8_ x.Value
 by_cases k1 : x.Kind = 1
 ·have r : b4_ x = true := by simp [b4_, k1]
  have hN : bo_ x = (bM_ x && (decide ((x.Value.size : Int) ≤ 64) && df_ x.N && (decide (x.N.tmod 10 = 1) || decide (x.Value = txt [])))) := by rw [cq_, wb_ k1]
  rw [r] at hRd
  simp only [ad_.cells, k1] at hW hRd hTn
  simp (disch := omega) only [ha_, c40, ad_.cells, k1, go_sem, reduceEqDiff, Nat.reduceAdd, Int.reduceNeg, ↓reduceIte]
  repeat' (first
   | exact ae_ _ _
   | (refine ac_ ?_; rw [hN]; simp only [*, Bool.true_and, Bool.and_false, Bool.false_and, Bool.true_or, Bool.false_or, decide_true, decide_false, Bool.and_self]; done)
   | simp (disch := omega) only [go_sem, reduceEqDiff, Nat.reduceAdd, Int.reduceNeg, ↓reduceIte]
   | (refine aa_.call (hRd _) ?_)
   | (refine aa_.q (hRd _) ?_)
   | (refine aa_.call (hTn _) ?_)
   | (refine aa_.q (hTn _) ?_)
   | (refine aa_.call (hW _) ?_)
   | (refine aa_.q (hW _) ?_)
   | (refine aa_.call (dG_ _ _) ?_)
   | (refine aa_.q (dG_ _ _) ?_)
   | ((first | (apply aL_; assumption) | (apply aK_; assumption) | (apply a0_; assumption) | (apply a1_; assumption)); intro hb; try simp only [hb])
   | ((first | (apply ay_; assumption) | (apply ax_; assumption) | (apply aD_; assumption) | (apply aE_; assumption)); intro hb; try simp only [hb])
   | ((first | apply as_ | apply au_ | apply ak_ | apply al_) <;> intro hb <;> (try simp only [hb]) <;> (first | have hp := aT_ hb | have hp := aS_ hb | have hp := aR_ hb | have hp := aU_ hb | skip)))
 by_cases k4 : x.Kind = 4
 ·have r : b4_ x = true := by simp [b4_, k4]
  have hN : bo_ x = (bM_ x && (df_ x.N && decide (x.Value = txt []))) := by rw [cq_, wd_ k4]
  rw [r] at hRd
  simp only [ad_.cells, k4] at hW hRd hTn
  simp (disch := omega) only [ha_, c40, ad_.cells, k4, go_sem, reduceEqDiff, Nat.reduceAdd, Int.reduceNeg, ↓reduceIte]
  repeat' (first
   | exact ae_ _ _
   | (refine ac_ ?_; rw [hN]; simp only [*, Bool.true_and, Bool.and_false, Bool.false_and]; done)
   | simp (disch := omega) only [Int.reduceEq, go_sem, reduceEqDiff, Nat.reduceAdd, Int.reduceNeg, ↓reduceIte]
   | (refine aa_.call (hRd _) ?_)
   | (refine aa_.q (hRd _) ?_)
   | (refine aa_.call (hTn _) ?_)
   | (refine aa_.q (hTn _) ?_)
   | (refine aa_.call (hW _) ?_)
   | (refine aa_.q (hW _) ?_)
   | (refine aa_.call (dG_ _ _) ?_)
   | (refine aa_.q (dG_ _ _) ?_)
   | ((first | (apply aL_; assumption) | (apply aK_; assumption) | (apply a0_; assumption) | (apply a1_; assumption)); intro hb; try simp only [hb])
   | ((first | (apply ay_; assumption) | (apply ax_; assumption) | (apply aD_; assumption) | (apply aE_; assumption)); intro hb; try simp only [hb])
   | ((first | apply as_ | apply au_ | apply ak_ | apply al_) <;> intro hb <;> (try simp only [hb]) <;> (first | have hp := aT_ hb | have hp := aS_ hb | have hp := aR_ hb | have hp := aU_ hb | skip)))
 by_cases k5 : x.Kind = 5
 ·have r : b4_ x = true := by simp [b4_, k5]
  have hN : bo_ x = (bM_ x && ((decide (x.Value = txt []) || bp_ x.Value) && (decide (x.N = 1) || decide (x.N = -1)))) := by rw [cq_, wl_ k5]
  rw [r] at hRd
  simp only [ad_.cells, k5] at hW hRd hTn
  simp (disch := omega) only [ha_, c40, ad_.cells, k5, go_sem, reduceEqDiff, Nat.reduceAdd, Int.reduceNeg, ↓reduceIte]
  repeat' (first
   | exact ae_ _ _
   | (refine ac_ ?_; rw [hN]; simp only [*, Bool.true_and, Bool.and_false, Bool.false_and, Bool.or_true, Bool.true_or, Bool.false_or, Bool.and_self, Bool.or_self]; done)
   | simp (disch := omega) only [Int.reduceEq, go_sem, reduceEqDiff, Nat.reduceAdd, Int.reduceNeg, ↓reduceIte]
   | (refine aa_.call (hRd _) ?_)
   | (refine aa_.q (hRd _) ?_)
   | (refine aa_.call (hTn _) ?_)
   | (refine aa_.q (hTn _) ?_)
   | (refine aa_.call (hW _) ?_)
   | (refine aa_.q (hW _) ?_)
   | (refine aa_.call (en_ _ _) ?_)
   | (refine aa_.q (en_ _ _) ?_)
   | ((first | (apply aL_; assumption) | (apply aK_; assumption) | (apply a0_; assumption) | (apply a1_; assumption)); intro hb; try simp only [hb])
   | ((first | (apply ay_; assumption) | (apply ax_; assumption) | (apply aD_; assumption) | (apply aE_; assumption)); intro hb; try simp only [hb])
   | ((first | apply as_ | apply au_ | apply ak_ | apply al_) <;> intro hb <;> (try simp only [hb]) <;> (first | have hp := aT_ hb | have hp := aS_ hb | have hp := aR_ hb | have hp := aU_ hb | skip)))
 by_cases k6 : x.Kind = 6
 ·have r : b4_ x = true := by simp [b4_, k6]
  rw [r] at hRd
  simp only [ad_.cells, k6] at hW hRd hTn
  by_cases hn0 : x.N = 0
  ·have hN : bo_ x = (bM_ x && decide (x.Value = txt [])) := by rw [cq_, tL_ k6, if_pos hn0]
   simp (disch := omega) only [ha_, c40, ad_.cells, k6, go_sem, reduceEqDiff, Nat.reduceAdd, Int.reduceNeg, ↓reduceIte]
   simp only [hn0] at hW hRd hTn
   repeat' (first
    | exact ae_ _ _
    | (refine ac_ ?_; rw [hN]; simp only [*, Bool.true_and, Bool.false_and]; done)
    | simp (disch := omega) only [Int.reduceEq, hn0, go_sem, reduceEqDiff, Nat.reduceAdd, Int.reduceNeg, ↓reduceIte]
    | (refine aa_.call (hRd _) ?_)
    | (refine aa_.q (hRd _) ?_)
    | (refine aa_.call (hTn _) ?_)
    | (refine aa_.q (hTn _) ?_)
    | (refine aa_.call (hW _) ?_)
    | (refine aa_.q (hW _) ?_)
    | ((first | (apply aL_; assumption) | (apply aK_; assumption) | (apply a0_; assumption) | (apply a1_; assumption)); intro hb; try simp only [hb])
    | ((first | (apply ay_; assumption) | (apply ax_; assumption) | (apply aD_; assumption) | (apply aE_; assumption)); intro hb; try simp only [hb])
    | ((first | apply as_ | apply au_ | apply ak_ | apply al_) <;> intro hb <;> (try simp only [hb]) <;> (first | have hp := aT_ hb | have hp := aS_ hb | have hp := aR_ hb | have hp := aU_ hb | skip)))
  ·have hN : bo_ x = (bM_ x && (decide (x.N = 1) && (cH_ x.Value).2)) := by rw [cq_, tL_ k6, if_neg hn0]
   simp (disch := omega) only [ha_, c40, ad_.cells, k6, go_sem, reduceEqDiff, Nat.reduceAdd, Int.reduceNeg, ↓reduceIte]
   repeat' (first
    | exact ae_ _ _
    | (refine ac_ ?_; rw [hN]; simp only [*, Bool.and_false, Bool.false_and, Bool.and_self]; done)
    | simp (disch := omega) only [Int.reduceEq, hn0, go_sem, reduceEqDiff, Nat.reduceAdd, Int.reduceNeg, ↓reduceIte]
    | (refine aa_.call (hRd _) ?_)
    | (refine aa_.q (hRd _) ?_)
    | (refine aa_.call (hTn _) ?_)
    | (refine aa_.q (hTn _) ?_)
    | (refine aa_.call (hW _) ?_)
    | (refine aa_.q (hW _) ?_)
    | (refine aa_.call (gy_ _ hv _) ?_)
    | (refine aa_.q (gy_ _ hv _) ?_)
    | (refine aa_.call (cu_ _ hq _) ?_)
    | (refine aa_.q (cu_ _ hq _) ?_)
    | ((first | (apply aL_; assumption) | (apply aK_; assumption) | (apply a0_; assumption) | (apply a1_; assumption)); intro hb; try simp only [hb])
    | ((first | (apply ay_; assumption) | (apply ax_; assumption) | (apply aD_; assumption) | (apply aE_; assumption)); intro hb; try simp only [hb])
    | ((first | apply as_ | apply au_ | apply ak_ | apply al_) <;> intro hb <;> (try simp only [hb]) <;> (first | have hp := aT_ hb | have hp := aS_ hb | have hp := aR_ hb | have hp := aU_ hb | skip)))
 by_cases k2 : x.Kind = 2
 ·have r : b4_ x = false := by simp [b4_, k2]
  have r2 : bO_ x = true := by simp [bO_, k2]
  have hN : bo_ x = (bM_ x && (decide ((x.Value.size : Int) ≤ 64) && decide (x.N = 0))) := by rw [cq_, wi_ k2]
  rw [r] at hRd
  rw [r2] at hTn
  simp only [ad_.cells, k2] at hW hRd hTn
  simp (disch := omega) only [ha_, c40, ad_.cells, k2, go_sem, reduceEqDiff, Nat.reduceAdd, Int.reduceNeg, ↓reduceIte]
  repeat' (first
   | exact ae_ _ _
   | (refine ac_ ?_; rw [hN]; simp only [*, Bool.true_and, Bool.and_false, Bool.false_and, decide_true, decide_false]; done)
   | simp (disch := omega) only [Int.reduceEq, go_sem, reduceEqDiff, Nat.reduceAdd, Int.reduceNeg, ↓reduceIte]
   | (refine aa_.call (hRd _) ?_)
   | (refine aa_.q (hRd _) ?_)
   | (refine aa_.call (hTn _) ?_)
   | (refine aa_.q (hTn _) ?_)
   | (refine aa_.call (hW _) ?_)
   | (refine aa_.q (hW _) ?_)
   | ((first | (apply aL_; assumption) | (apply aK_; assumption) | (apply a0_; assumption) | (apply a1_; assumption)); intro hb; try simp only [hb])
   | ((first | (apply ay_; assumption) | (apply ax_; assumption) | (apply aD_; assumption) | (apply aE_; assumption)); intro hb; try simp only [hb])
   | ((first | apply as_ | apply au_ | apply ak_ | apply al_) <;> intro hb <;> (try simp only [hb]) <;> (first | have hp := aT_ hb | have hp := aS_ hb | have hp := aR_ hb | have hp := aU_ hb | skip)))
 by_cases k3 : x.Kind = 3
 ·have r : b4_ x = false := by simp [b4_, k3]
  have r2 : bO_ x = true := by simp [bO_, k3]
  have hN : bo_ x = (bM_ x && (decide (x.Value = txt []) && decide (x.N = 0))) := by rw [cq_, wf_ k3]
  rw [r] at hRd
  rw [r2] at hTn
  simp only [ad_.cells, k3] at hW hRd hTn
  simp (disch := omega) only [ha_, c40, ad_.cells, k3, go_sem, reduceEqDiff, Nat.reduceAdd, Int.reduceNeg, ↓reduceIte]
  repeat' (first
   | exact ae_ _ _
   | (refine ac_ ?_; rw [hN]; simp only [*, Bool.true_and, Bool.and_false, Bool.false_and]; done)
   | simp (disch := omega) only [Int.reduceEq, go_sem, reduceEqDiff, Nat.reduceAdd, Int.reduceNeg, ↓reduceIte]
   | (refine aa_.call (hRd _) ?_)
   | (refine aa_.q (hRd _) ?_)
   | (refine aa_.call (hTn _) ?_)
   | (refine aa_.q (hTn _) ?_)
   | (refine aa_.call (hW _) ?_)
   | (refine aa_.q (hW _) ?_)
   | ((first | (apply aL_; assumption) | (apply aK_; assumption) | (apply a0_; assumption) | (apply a1_; assumption)); intro hb; try simp only [hb])
   | ((first | (apply ay_; assumption) | (apply ax_; assumption) | (apply aD_; assumption) | (apply aE_; assumption)); intro hb; try simp only [hb])
   | ((first | apply as_ | apply au_ | apply ak_ | apply al_) <;> intro hb <;> (try simp only [hb]) <;> (first | have hp := aT_ hb | have hp := aS_ hb | have hp := aR_ hb | have hp := aU_ hb | skip)))
 have r : b4_ x = false := by simp [b4_, *]
 have r2 : bO_ x = false := by simp [bO_, *]
 have hN : bo_ x = false := by rw [cq_, wn_ k1 k4 k5 k6 k2 k3]; simp
 rw [r] at hRd
 rw [r2] at hTn
 simp only [ad_.cells] at hW hRd hTn
 simp (disch := omega) only [ha_, c40, ad_.cells, go_sem, reduceEqDiff, Nat.reduceAdd, Int.reduceNeg, ↓reduceIte]
 repeat' (first
  | exact ae_ _ _
  | (refine ac_ ?_; rw [hN]; done)
  | simp (disch := omega) only [go_sem, reduceEqDiff, Nat.reduceAdd, Int.reduceNeg, ↓reduceIte]
  | (refine aa_.call (hRd _) ?_)
  | (refine aa_.q (hRd _) ?_)
  | (refine aa_.call (hTn _) ?_)
  | (refine aa_.q (hTn _) ?_)
  | (refine aa_.call (hW _) ?_)
  | (refine aa_.q (hW _) ?_)
  | ((first | (apply aL_; assumption) | (apply aK_; assumption) | (apply a0_; assumption) | (apply a1_; assumption)); intro hb; try simp only [hb])
  | ((first | (apply ay_; assumption) | (apply ax_; assumption) | (apply aD_; assumption) | (apply aE_; assumption)); intro hb; try simp only [hb])
  | ((first | apply as_ | apply au_ | apply ak_ | apply al_) <;> intro hb <;> (try simp only [hb]) <;> (first | have hp := aT_ hb | have hp := aS_ hb | have hp := aR_ hb | have hp := aU_ hb | skip)))
theorem db_ (x : ad_) (hx : ad_.sz x ≤ 1048576) (h : List Row) : aa_ Tryz.prog 46 [.agg (ad_.cells x)] h (.val (.bool (bo_ x))) := eV_ x hx h
def c45 : LC :=
 .q [.o [.f 2], .o [.m 3 0, .s 4 (.call 72 [.tmp 3, .const (.int .i64 1), .const (.int .i64 4)]), .m 2 4], .ret]
def tq_ : LF := ⟨1, 5, c45, [.tmp 2]⟩
theorem vv_ : av_ Tryz.prog Tryz.f45 tq_ := ap_
theorem hO_ (n : Int)  (h : List Row) : aa_ Tryz.prog 45 [.val (.int .i64 n)] h (.val (.bool (cg_ n 1 4))) := by
 refine an_ mixed Tryz.func45 vv_ rfl rfl ?_ h
 simp (disch := omega) only [tq_, c45, go_sem, reduceCtorEq, ↓reduceIte]
 repeat' (first
  | exact ae_ _ _
  | simp (disch := omega) only [go_sem, ↓reduceIte]
  | (refine aa_.call (d6_ _ _ _ _) ?_)
  | (refine aa_.q (d6_ _ _ _ _) ?_)
  | ((first | (apply ay_; assumption) | (apply ax_; assumption) | (apply aD_; assumption) | (apply aE_; assumption)); intro hb; try simp only [hb])
  | ((first | apply ak_ | apply al_) <;> intro hb <;> (try simp only [hb]) <;> (first | have hp := aT_ hb | have hp := aS_ hb | have hp := aR_ hb | have hp := aU_ hb | skip)))
def c39 : LC :=
 .q [.o [.f 2], .o [.m 3 0, .s 4 (.call 61 [.tmp 3, .const (.int .i64 1), .const (.int .i64 4)]), .m 2 4], .ret]
def tR_ : LF := ⟨1, 5, c39, [.tmp 2]⟩
theorem v5_ : av_ Tryz.prog Tryz.f39 tR_ := ap_
theorem d9_ (n : Int)  (h : List Row) : aa_ Tryz.prog 39 [.val (.int .i64 n)] h (.val (.bool (cg_ n 1 4))) := by
 refine an_ mixed Tryz.func39 v5_ rfl rfl ?_ h
 simp (disch := omega) only [tR_, c39, go_sem, reduceCtorEq, ↓reduceIte]
 repeat' (first
  | exact ae_ _ _
  | simp (disch := omega) only [go_sem, ↓reduceIte]
  | (refine aa_.call (fD_ _ _ _ _) ?_)
  | (refine aa_.q (fD_ _ _ _ _) ?_)
  | ((first | (apply aL_; assumption) | (apply aK_; assumption) | (apply a0_; assumption) | (apply a1_; assumption)); intro hb; try simp only [hb])
  | ((first | (apply ay_; assumption) | (apply ax_; assumption) | (apply aD_; assumption) | (apply aE_; assumption)); intro hb; try simp only [hb])
  | ((first | apply as_ | apply au_ | apply ak_ | apply al_) <;> intro hb <;> (try simp only [hb]) <;> (first | have hp := aT_ hb | have hp := aS_ hb | have hp := aR_ hb | have hp := aU_ hb | skip)))
def b2_ (x : ab_) : Bool := cg_ x.Job 1 4 && bo_ x.Event
def bZ_ (xs : List ab_) : Bool := decide ((xs.length : Int) ≤ 60) && xs.all b2_
def c44 : LC :=
 .q [.o [.bx 1 49 0, .f 2], .o [.fa 3 0 1, .ln 4 3, .c1 5 45 4, .nt 6 5, .m 7 6, .gf 8 7 false 1 1, .gl 9 7 false 5 8, .gc 10 7 false 46 9, .gu 11 7 false 10, .pt 12 7 11, .m 2 12], .ret]
def tu_ : LF := ⟨1, 13, c44, [.tmp 2]⟩
theorem vp_ : av_ Tryz.prog Tryz.f44 tu_ := ap_
theorem e2_ (x : ab_) (hx : ab_.sz x ≤ 1048576) (h : List Row) : aa_ Tryz.prog 44 [.agg (ab_.cells x)] h (.val (.bool (!b2_ x))) := by
 refine an_ mixed Tryz.func44 vp_ rfl rfl ?_ h
 simp (disch := omega) only [tu_, c44, ab_.cells, List.nil_append, go_sem, Nat.reduceEqDiff, Nat.reduceAdd, ↓reduceIte]
 repeat' (first
  | exact ae_ _ _
  | (refine ac_ ?_; simp only [b2_, *, Bool.true_and, Bool.false_and, Bool.not_false]; done)
  | simp (disch := omega) only [go_sem, Nat.reduceEqDiff, Nat.reduceAdd, ↓reduceIte]
  | (refine aa_.call (hO_ _ _) ?_)
  | (refine aa_.q (hO_ _ _) ?_)
  | (refine aa_.call (eV_ x.Event (ab_.sz_Event hx) _) ?_)
  | (refine aa_.q (eV_ x.Event (ab_.sz_Event hx) _) ?_)
  | ((first | (apply aL_; assumption) | (apply aK_; assumption) | (apply a0_; assumption) | (apply a1_; assumption)); intro hb; try simp only [hb])
  | ((first | (apply ay_; assumption) | (apply ax_; assumption) | (apply aD_; assumption) | (apply aE_; assumption)); intro hb; try simp only [hb])
  | ((first | apply as_ | apply au_ | apply ak_ | apply al_) <;> intro hb <;> (try simp only [hb]) <;> (first | have hp := aT_ hb | have hp := aS_ hb | have hp := aR_ hb | have hp := aU_ hb | skip)))
def c71 : LC :=
 .q [.o [.ki 4 0], .q [.o [.m 6 0, .ll 7 6, .ki 8 0], .block 0 (.loop (.q [.o [.bb 9 .lss false 8 7], .k 9 .skip (.exit 0), .block 1 (.q [.o [.m 10 8, .m 5 10], .o [.m 11 1, .m 12 0, .m 13 5, .ia 14 6 12 13, .ld 15 6 14,
 .s 16 (.callv (.tmp 11) [.tmp 15])], .k 16 (.q [.o [.m 17 5, .m 4 17], .ret]) .skip]), .o [.bk 18 .add false 8 1, .m 8 18]]))], .o [.s 4 (.mov (.const (.int .i64 (-1))))], .ret]
def uS_ : LF := ⟨2, 19, c71, [.tmp 4]⟩
theorem v0_ : av_ prog Tryz.f71 uS_ := ap_
theorem eR_ (xs : List ab_) (p : ab_ → Bool) (g : Nat) (hx : xs.length ≤ 1048576) (hc : cl_ prog g = true) (hp : ∀ x ∈ xs, ∀ h, aa_ prog g [.agg (ab_.cells x)] h (.val (.bool (p x)))) (h : List Row) :
 aa_ prog 71 [.list 0 6 (xs.map ab_.cells), .fn g [] []] h (.val (.int .i64 (cx_ p xs 0))) := by
 refine an_ mixed Tryz.func71 v0_ rfl rfl ?_ h
 simp (disch := omega) only [uS_, c71, go_sem, reduceCtorEq, Int.reduceNeg, ↓reduceIte]
 refine aJ_ (fun n t h => ∃ k : Nat, t 0 = .list 0 6 (xs.map ab_.cells) ∧ t 1 = .fn g [] [] ∧ t 6 = .list 0 6 (xs.map ab_.cells) ∧ t 7 = .val (.int .i64 xs.length) ∧ t 8 = .val (.int .i64 k) ∧ n = xs.length - k ∧ k ≤ xs.length ∧ (cx_ p xs 0 = cx_ p (xs.drop k) k)) (xs.length) ?_ ?_
 ·exact ⟨0, rfl, rfl, rfl, rfl, rfl, rfl, Nat.zero_le _, rfl⟩
 ·rintro J hJ n t h ⟨k, t0, t1, t6, t7, k8, rfl, hk, hS⟩
  by_cases hlt : k < xs.length
  ·skip
   rw [im_ p xs k hlt] at hS
   simp (disch := omega) only [t0, t1, t7, k8, hlt, hc, ab_.cells, go_sem, reduceEqDiff, Nat.reduceAdd, reduceCtorEq, Int.reduceNeg, ↓reduceIte]
   repeat' (first
    | exact ae_ _ _
    | exact ⟨xs.length - (k + 1), by omega, hJ _ _ _ ⟨k + 1, by simp [upd, t0], by simp [upd, t1], by simp [upd, t6], by simp [upd, t7], by simp [upd], rfl, by omega, by rw [hS]; simp [*]⟩⟩
    | (refine aM_ ?_; rw [hS]; simp [*]; done)
    | (refine aM_ ?_; rw [hS, fl_ _ _ _ (by omega)])
    | simp (disch := omega) only [k8, go_sem, reduceEqDiff, Int.reduceNeg, ↓reduceIte]
    | (refine aa_.call (hp xs[k] (getElem_mem hlt) _) ?_)
    | (refine aa_.q (hp xs[k] (getElem_mem hlt) _) ?_)
    | ((first | (apply ay_; assumption) | (apply ax_; assumption) | (apply aD_; assumption) | (apply aE_; assumption)); intro hb; try simp only [hb])
    | ((first | apply ak_ | apply al_) <;> intro hb <;> (try simp only [hb]) <;> (first | have hp := aT_ hb | have hp := aS_ hb | have hp := aR_ hb | have hp := aU_ hb | skip)))
  ·skip
   simp (disch := omega) only [t7, k8, hlt, go_sem, Int.reduceNeg, ↓reduceIte]
   repeat' (first
    | exact ae_ _ _
    | (refine aM_ ?_; rw [hS]; simp [*]; done)
    | (refine aM_ ?_; rw [hS, fl_ _ _ _ (by omega)])
    | simp (disch := omega) only [t0, t1, t6, t7, k8, go_sem, reduceEqDiff, Nat.reduceAdd, reduceLeDiff, reduceCtorEq, Int.reduceLT, Int.reduceLE, Int.reduceNeg, Int.reduceSub, Int.reduceAdd, Int.reduceToNat, ↓reduceIte]
    | (refine aa_.call (hp xs[k] (getElem_mem hlt) _) ?_)
    | (refine aa_.q (hp xs[k] (getElem_mem hlt) _) ?_)
    | ((first | (apply ay_; assumption) | (apply ax_; assumption) | (apply aD_; assumption) | (apply aE_; assumption)); intro hb; try simp only [hb])
    | ((first | apply ak_ | apply al_) <;> intro hb <;> (try simp only [hb]) <;> (first | have hp := aT_ hb | have hp := aS_ hb | have hp := aR_ hb | have hp := aU_ hb | skip)))
def c43 : LC :=
 .q [.o [.f 4], .o [.m 5 0, .m 6 1, .c2 7 71 5 6, .bk 8 .geq false 7 0, .m 4 8], .ret]
def us_ : LF := ⟨2, 9, c43, [.tmp 4]⟩
theorem v4_ : av_ prog Tryz.f43 us_ := ap_
theorem ct_ (xs : List ab_) (p : ab_ → Bool) (g : Nat) (hx : xs.length ≤ 1048576) (hc : cl_ prog g = true) (hp : ∀ x ∈ xs, ∀ h, aa_ prog g [.agg (ab_.cells x)] h (.val (.bool (p x)))) (h : List Row) :
 aa_ prog 43 [.list 0 6 (xs.map ab_.cells), .fn g [] []] h (.val (.bool (xs.any p))) := by
 refine an_ mixed Tryz.func43 v4_ rfl rfl ?_ h
 simp (disch := omega) only [us_, c43, go_sem, reduceEqDiff, reduceCtorEq, ↓reduceIte]
 refine aa_.call (eR_ xs p g hx hc hp _) ?_
 simp (disch := omega) only [go_sem, ↓reduceIte]
 exact ac_ (iJ_ p xs)
def c23 : LC :=
 .q [.o [.f 2], .o [.m 3 0, .ll 4 3, .bk 5 .leq false 4 60, .m 6 5, .gm 7 6 true 0, .g 8 6 true (.call 43 [.tmp 7, .func 44]), .gu 9 6 true 8, .pf 10 6 9, .m 2 10], .ret]
def s7_ : LF := ⟨1, 11, c23, [.tmp 2]⟩
theorem vW_ : av_ prog Tryz.f23 s7_ := ap_
theorem jf_ (xs : List ab_) (hs : aG_ ab_.sz xs ≤ 1048576) (h : List Row) : aa_ prog 23 [.list 0 6 (xs.map ab_.cells)] h (.val (.bool (bZ_ xs))) := by
 refine an_ mixed Tryz.func23 vW_ rfl rfl ?_ h
 simp (disch := omega) only [s7_, c23, go_sem, reduceCtorEq, ↓reduceIte]
 repeat' (first
  | exact ae_ _ _
  | (refine ac_ ?_; simp only [nL_, bZ_, *, Bool.true_and, Bool.false_and, decide_true, decide_false]; done)
  | simp (disch := omega) only [go_sem, reduceEqDiff, reduceCtorEq, ↓reduceIte]
  | (refine aa_.call (ct_ _ (fun s => !b2_ s) 44 (b1_ hs) (by kernel_rfl) (fun x hx h => e2_ x (by have := cR_ (f := ab_.sz) hx; omega) h) _) ?_)
  | (refine aa_.q (ct_ _ (fun s => !b2_ s) 44 (b1_ hs) (by kernel_rfl) (fun x hx h => e2_ x (by have := cR_ (f := ab_.sz) hx; omega) h) _) ?_)
  | ((first | (apply aL_; assumption) | (apply aK_; assumption) | (apply a0_; assumption) | (apply a1_; assumption)); intro hb; try simp only [hb])
  | ((first | (apply ay_; assumption) | (apply ax_; assumption) | (apply aD_; assumption) | (apply aE_; assumption)); intro hb; try simp only [hb])
  | ((first | apply as_ | apply au_ | apply ak_ | apply al_) <;> intro hb <;> (try simp only [hb]) <;> (first | have hp := aT_ hb | have hp := aS_ hb | have hp := aR_ hb | have hp := aU_ hb | skip)))
def c20 : LC :=
 .q [.o [.f 2], .q [.o [.m 4 0, .ll 5 4, .bk 6 .gtr false 5 60], .k 6 (.q [.o [.f 2], .ret]) .skip], .q [.o [.ki 3 0], .block 0 (.loop (.q [.q [.o [.m 7 3, .m 8 0, .ll 9 8, .bb 10 .lss false 7 9], .k 10 .skip (.exit 0)],
 .block 1 (.q [.o [.m 13 0, .m 14 3, .ia 15 6 13 14, .fa 16 0 15, .ln 17 16, .c1 18 39 17, .nt 19 18, .m 20 19, .gm 21 20 false 0, .gm 22 20 false 3, .g 23 20 false (.indexAddr 6 (.tmp 21) (.tmp 22)), .gf 24 20 false 1
 23, .gl 25 20 false 5 24, .gc 26 20 false 40 25, .gu 27 20 false 26, .pt 28 20 27], .k 28 (.q [.o [.f 2], .ret]) .skip]), .o [.m 11 3, .bk 12 .add false 11 1, .m 3 12]]))], .o [.t 2], .ret]
def qh_ : LF := ⟨1, 29, c20, [.tmp 2]⟩
theorem v2_ : av_ prog Tryz.f20 qh_ := ap_
theorem iZ_ (xs : List ab_) (hs : aG_ ab_.sz xs ≤ 1048576) (h : List Row) : aa_ prog 20 [.list 0 6 (xs.map ab_.cells)] h (.val (.bool (bZ_ xs))) := by
 refine an_ mixed Tryz.func20 v2_ rfl rfl ?_ h
 have hx := b1_ hs
 have hm : ∀ x ∈ xs, ab_.sz x ≤ 1048576 := fun x hx => by have := cR_ (f := ab_.sz) hx; omega
 by_cases h4 : (xs.length : Int) ≤ 60
 ·have h4' : ((60 : Int) < xs.length) = False := eq_false (by omega)
  have hS0 : bZ_ xs = xs.all b2_ := by simp [bZ_, h4]
  simp (disch := omega) only [qh_, c20, h4', go_sem, reduceCtorEq, ↓reduceIte]
  refine aJ_ (fun n t h => ∃ k : Nat, t 0 = .list 0 6 (xs.map ab_.cells) ∧ t 3 = .val (.int .i64 k) ∧ n = xs.length - k ∧ k ≤ xs.length ∧ (xs.all b2_ = (xs.drop k).all b2_)) (xs.length) ?_ ?_
  ·exact ⟨0, rfl, rfl, rfl, Nat.zero_le _, rfl⟩
  ·rintro J hJ n t h ⟨k, t0, k3, rfl, hk, hS⟩
   by_cases hlt : k < xs.length
   ·skip
    rw [mE_ b2_ xs k hlt] at hS
    simp (disch := omega) only [t0, k3, hlt, ab_.cells, go_sem, reduceEqDiff, Nat.reduceAdd, reduceCtorEq, ↓reduceIte]
    repeat' (first
     | exact ae_ _ _
     | exact ⟨xs.length - (k + 1), by omega, hJ _ _ _ ⟨k + 1, by simp [upd, t0], by simp [upd], rfl, by omega, by rw [hS]; first | (simp only [b2_, *, Bool.true_and, Bool.and_self]; done) | simp [b2_, *]⟩⟩
     | (refine ac_ ?_; rw [hS0, hS]; first | (simp only [b2_, *, Bool.and_false, Bool.false_and]; done) | (simp [b2_, *]; done))
     | (refine ac_ ?_; rw [hS0, hS, ix_ _ _ _ (by omega)])
     | simp (disch := omega) only [t0, k3, go_sem, reduceEqDiff, reduceCtorEq, ↓reduceIte]
     | (refine aa_.call (d9_ _ _) ?_)
     | (refine aa_.q (d9_ _ _) ?_)
     | (refine aa_.call (ef_ (xs[k]).Event (ab_.sz_Event (hm _ (getElem_mem hlt))) _) ?_)
     | (refine aa_.q (ef_ (xs[k]).Event (ab_.sz_Event (hm _ (getElem_mem hlt))) _) ?_)
     | ((first | (apply aL_; assumption) | (apply aK_; assumption) | (apply a0_; assumption) | (apply a1_; assumption)); intro hb; try simp only [hb])
     | ((first | (apply ay_; assumption) | (apply ax_; assumption) | (apply aD_; assumption) | (apply aE_; assumption)); intro hb; try simp only [hb])
     | ((first | apply as_ | apply au_ | apply ak_ | apply al_) <;> intro hb <;> (try simp only [hb]) <;> (first | have hp := aT_ hb | have hp := aS_ hb | have hp := aR_ hb | have hp := aU_ hb | skip)))
   ·skip
    simp (disch := omega) only [t0, k3, hlt, go_sem, reduceEqDiff, reduceCtorEq, ↓reduceIte]
    repeat' (first
     | exact ae_ _ _
     | (refine ac_ ?_; rw [hS0, hS]; first | (simp only [b2_, *, Bool.and_true, Bool.true_and, Bool.and_false, Bool.false_and, Bool.or_true, Bool.true_or, Bool.or_false, Bool.false_or, Bool.not_true, Bool.not_false, decide_true, decide_false, Bool.and_self, Bool.or_self]; done) | (simp [b2_, *]; done))
     | (refine ac_ ?_; rw [hS0, hS, ix_ _ _ _ (by omega)])
     | simp (disch := omega) only [t0, k3, go_sem, reduceEqDiff, Nat.reduceAdd, reduceLeDiff, reduceCtorEq, Int.reduceLT, Int.reduceLE, Int.reduceNeg, Int.reduceSub, Int.reduceAdd, Int.reduceToNat, ↓reduceIte]
     | (refine aa_.call (d9_ _ _) ?_)
     | (refine aa_.q (d9_ _ _) ?_)
     | (refine aa_.call (ef_ (xs[k]).Event (ab_.sz_Event (hm _ (getElem_mem hlt))) _) ?_)
     | (refine aa_.q (ef_ (xs[k]).Event (ab_.sz_Event (hm _ (getElem_mem hlt))) _) ?_)
     | ((first | (apply aL_; assumption) | (apply aK_; assumption) | (apply a0_; assumption) | (apply a1_; assumption)); intro hb; try simp only [hb])
     | ((first | (apply ay_; assumption) | (apply ax_; assumption) | (apply aD_; assumption) | (apply aE_; assumption)); intro hb; try simp only [hb])
     | ((first | apply as_ | apply au_ | apply ak_ | apply al_) <;> intro hb <;> (try simp only [hb]) <;> (first | have hp := aT_ hb | have hp := aS_ hb | have hp := aR_ hb | have hp := aU_ hb | skip)))
 ·have h4' : ((60 : Int) < xs.length) = True := eq_true (by omega)
  simp (disch := omega) only [qh_, c20, h4', go_sem, reduceCtorEq, ↓reduceIte]
  exact ac_ (by simp [bZ_, h4])
def bt_ (x : ad_) : List ByteArray := if x.Kind = 5 then bk_ x.Subs else if x.Kind = 6 then [] else x.Subs
def iw_ (x : ad_) : AV := if x.Kind = 6 then .val (.slice none 0 0) else .list 0 1 ((bt_ x).map az_)
theorem hD_ (x : ad_) (H : List Row) : bI_ H (iw_ x) (.list 0 1 ((bt_ x).map az_)) := by
 unfold iw_
 by_cases k6 : x.Kind = 6
 ·rw [if_pos k6, bt_, if_neg (by omega), if_pos k6]; exact (aB_.mknil 0 0 H 1).arg
 ·rw [if_neg k6]; exact bI_.same rfl
theorem hn_ (x : ad_) : (bt_ x).length ≤ x.Subs.length := by
 unfold bt_
 split
 ·rw [bk_, length_take]; omega
 ·split
  ·simp
  ·exact Nat.le_refl _
theorem dM_ {x : ad_} (h : bo_ x = true) (k5 : x.Kind = 5) : 0 < x.Subs.length := by
 rw [cq_, Bool.and_eq_true, bM_, if_pos k5] at h
 have := h.1
 simp only [Bool.and_eq_true, decide_eq_true_eq] at this
 omega
def c79 : LC :=
 .q [.o [.bx 1 47 0, .nl 2], .q [.o [.fa 3 0 1, .ln 4 3], .block 0 (.q [.o [.bk 6 .eql false 4 5, .m 5 6], .k 5 (.q [.o [.fa 7 2 1, .ln 8 7, .fa 9 2 1, .ln 10 9, .ll 11 10, .bk 12 .sub false 11 1, .s 13 (.sliceSl 1 (.tmp
 8) none (some (.tmp 12))), .m 2 13], .ret]) (.q [.o [.bk 15 .eql false 4 6, .m 14 15], .k 14 (.q [.o [.nl 2], .ret]) .skip])])], .o [.fa 16 2 1, .ln 17 16, .m 2 17], .ret]
def ok_ : LF := ⟨1, 18, c79, [.tmp 2]⟩
theorem vg_ : av_ prog Tryz.f79 ok_ := ap_
theorem e1_ (x : ad_) (hx : ad_.sz x ≤ 1048576) (hp : x.Kind = 5 → 0 < x.Subs.length) (h : List Row) : aa_ prog 79 [.agg (ad_.cells x)] h (iw_ x) := by
 refine an_ mixed Tryz.func79 vg_ rfl rfl ?_ h
 have h2 := b1_ (ad_.sz_Subs hx)
 by_cases k5 : x.Kind = 5
 ·have h0 := hp k5
  have hw : IntKind.i64.wrap ((x.Subs.length : Int) - 1) = ((x.Subs.length - 1 : Nat) : Int) := by rw [aq_ (n := (x.Subs.length : Int) - 1) (by omega) (by omega)]; omega
  have hfr : x.Subs.take (x.Subs.length - 1) = bk_ x.Subs := rfl
  simp (disch := omega) only [ok_, c79, ad_.cells, k5, hw, fx_, hfr, go_sem, reduceEqDiff, Nat.reduceAdd, ↓reduceIte]
  rw [iw_, if_neg (by omega), bt_, if_pos k5]
  exact ⟨1, rfl⟩
 ·by_cases k6 : x.Kind = 6
  ·simp (disch := omega) only [ok_, c79, ad_.cells, k6, Int.reduceEq, go_sem, reduceEqDiff, Nat.reduceAdd, ↓reduceIte]
   rw [iw_, if_pos k6]
   exact ⟨1, rfl⟩
  ·simp (disch := omega) only [ok_, c79, ad_.cells, k5, k6, go_sem, reduceEqDiff, Nat.reduceAdd, ↓reduceIte]
   rw [iw_, if_neg k6, bt_, if_neg k5, if_neg k6]
   exact ⟨1, rfl⟩
def du_ (a b : ad_) : Bool := bo_ a && bo_ b && ((bO_ a || bO_ b) && way a.Name (bt_ a) b.Name (bt_ b))
theorem r8_ {H : List Row} {a b c d b' d' : AV} (h1 : a.plain = true) (h2 : bI_ H b b') (h3 : c.plain = true) (h4 : bI_ H d d') : aQ_ H [a, b, c, d] [a, b', c, d'] :=
 .cons (.same h1) (.cons h2 (.cons (.same h3) (.one h4)))
def c47 : LC :=
 .q [.o [.bx 2 47 0, .bx 3 47 1, .f 4], .dops [.ld 5 5 2, .c1 6 46 5, .m 7 6, .gl 8 7 true 5 3, .gc 9 7 true 46 8, .pf 10 7 9, .m 11 10, .gl 12 11 true 5 2, .gc 13 11 true 77 12, .gm 14 11 true 13, .gl 15 14 false 5 3,
 .gc 16 14 false 77 15, .g 17 11 true (.pick (.tmp 14) (.const (.bool true)) (.tmp 16)), .pf 18 11 17, .m 19 18, .gf 20 19 true 1 2, .gn 21 19 true 20, .gl 22 19 true 5 2, .gc 23 19 true 79 22, .gf 24 19 true 1 3, .gn 25
 19 true 24, .gl 26 19 true 5 3, .gc 27 19 true 79 26, .g 28 19 true (.call 78 [.tmp 21, .tmp 23, .tmp 25, .tmp 27]), .pf 29 19 28, .m 4 29], .ret]
def o2_ : LF := ⟨2, 30, c47, [.tmp 4]⟩
theorem vO_ : av_ prog Tryz.f47 o2_ := ap_
theorem iz_ (x y : ad_) (hx : ad_.sz x ≤ 1048576) (hy : ad_.sz y ≤ 1048576) (h : List Row) : aa_ prog 47 [.agg (ad_.cells x), .agg (ad_.cells y)] h (.val (.bool (du_ x y))) := by
 refine an_ mixed Tryz.func47 vO_ rfl rfl ?_ h
 have h1 := b1_ (ad_.sz_Subs hx)
 have h2 := b1_ (ad_.sz_Subs hy)
 have a1 := hn_ x
 have a2 := hn_ y
 by_cases n1 : bo_ x = true
 case neg =>
  have n1' : bo_ x = false := by simpa using n1
  have hR := fun h => db_ x hx h
  rw [n1'] at hR
  simp (disch := omega) only [o2_, c47, ad_.cells, go_sem, reduceEqDiff, Nat.reduceAdd, ↓reduceIte]
  repeat' (first
   | exact ae_ _ _
   | (refine ac_ ?_; simp only [du_, n1', Bool.false_and]; done)
   | simp (disch := omega) only [go_sem, reduceEqDiff, ↓reduceIte]
   | (refine aa_.call (hR _) ?_)
   | (refine aa_.q (hR _) ?_)
   | ((first | (apply ay_; assumption) | (apply ax_; assumption) | (apply aD_; assumption) | (apply aE_; assumption)); intro hb; try simp only [hb])
   | ((first | (apply jq_; assumption) | (apply jT_; assumption) | (apply lH_; assumption) | (apply lJ_; assumption)); intro hb; try simp only [hb])
   | ((first | apply ak_ | apply al_ | apply fQ_ | apply gq_) <;> intro hb <;> (try simp only [hb]) <;> (first | have hp := aT_ hb | have hp := aS_ hb | have hp := aR_ hb | have hp := aU_ hb | skip)))
 by_cases n2 : bo_ y = true
 case neg =>
  have n2' : bo_ y = false := by simpa using n2
  have hR := fun h => db_ x hx h
  have hR2 := fun h => db_ y hy h
  rw [n1] at hR
  rw [n2'] at hR2
  simp (disch := omega) only [o2_, c47, ad_.cells, go_sem, reduceEqDiff, Nat.reduceAdd, ↓reduceIte]
  repeat' (first
   | exact ae_ _ _
   | (refine ac_ ?_; simp only [du_, n1, n2', Bool.and_false, Bool.false_and]; done)
   | simp (disch := omega) only [go_sem, reduceEqDiff, Nat.reduceAdd, ↓reduceIte]
   | (refine aa_.call (hR _) ?_)
   | (refine aa_.q (hR _) ?_)
   | (refine aa_.call (hR2 _) ?_)
   | (refine aa_.q (hR2 _) ?_)
   | ((first | (apply ay_; assumption) | (apply ax_; assumption) | (apply aD_; assumption) | (apply aE_; assumption)); intro hb; try simp only [hb])
   | ((first | (apply jq_; assumption) | (apply jT_; assumption) | (apply lH_; assumption) | (apply lJ_; assumption)); intro hb; try simp only [hb])
   | ((first | apply ak_ | apply al_ | apply fQ_ | apply gq_) <;> intro hb <;> (try simp only [hb]) <;> (first | have hp := aT_ hb | have hp := aS_ hb | have hp := aR_ hb | have hp := aU_ hb | skip)))
 have hR := fun h => db_ x hx h
 have hR2 := fun h => db_ y hy h
 rw [n1] at hR
 rw [n2] at hR2
 have e : du_ x y = ((bO_ x || bO_ y) && way x.Name (bt_ x) y.Name (bt_ y)) := by simp only [du_, n1, n2, Bool.true_and]
 simp (disch := omega) only [o2_, c47, ad_.cells, go_sem, reduceEqDiff, Nat.reduceAdd, ↓reduceIte]
 repeat' (first
  | exact ae_ _ _
  | (refine ac_ ?_; rw [e]; simp only [*, Bool.true_and, Bool.false_and, Bool.or_true, Bool.true_or, Bool.or_self]; done)
  | simp (disch := omega) only [go_sem, reduceEqDiff, Nat.reduceAdd, ↓reduceIte]
  | (refine aa_.call (hR _) ?_)
  | (refine aa_.q (hR _) ?_)
  | (refine aa_.call (hR2 _) ?_)
  | (refine aa_.q (hR2 _) ?_)
  | (refine aa_.call (dF_ x _) ?_)
  | (refine aa_.q (dF_ x _) ?_)
  | (refine aa_.call (dF_ y _) ?_)
  | (refine aa_.q (dF_ y _) ?_)
  | (refine aa_.call (e1_ x hx (dM_ n1) _) ?_)
  | (refine aa_.q (e1_ x hx (dM_ n1) _) ?_)
  | (refine aa_.call (e1_ y hy (dM_ n2) _) ?_)
  | (refine aa_.q (e1_ y hy (dM_ n2) _) ?_)
  | (refine aa_.call (aa_.own (f7_ x.Name (bt_ x) y.Name (bt_ y) (by omega) (by omega)) (r8_ rfl (hD_ x _) rfl (hD_ y _))) ?_)
  | (refine aa_.q (aa_.own (f7_ x.Name (bt_ x) y.Name (bt_ y) (by omega) (by omega)) (r8_ rfl (hD_ x _) rfl (hD_ y _))) ?_)
  | ((first | (apply ay_; assumption) | (apply ax_; assumption) | (apply aD_; assumption) | (apply aE_; assumption)); intro hb; try simp only [hb])
  | ((first | (apply jq_; assumption) | (apply jT_; assumption) | (apply lH_; assumption) | (apply lJ_; assumption)); intro hb; try simp only [hb])
  | ((first | apply ak_ | apply al_ | apply fQ_ | apply gq_) <;> intro hb <;> (try simp only [hb]) <;> (first | have hp := aT_ hb | have hp := aS_ hb | have hp := aR_ hb | have hp := aU_ hb | skip)))
def tc_ : LC :=
 .q [.o [.nl 2], .o [.s 3 (.buildSlice 9 1 (.string ⟨#[]⟩) 0 []), .m 4 0, .ap 5 9 1 16 3 4, .m 2 5], .ret]
def rV_ : LF := ⟨1, 6, tc_, [.tmp 2]⟩
theorem tQ_ : av_ prog Tryz.f125 rV_ := ap_
theorem fo_ (xs : List ByteArray) (hx : xs.length ≤ 1048576) : bj_ prog 125 [.list 0 1 (xs.map az_)] (.list 0 1 (xs.map az_)) (fun a => ∃ l, a = .own l xs.length) := by
 refine dU_ mixed Tryz.func125 tQ_ rfl (fun h0 => ?_)
 simp (disch := omega) only [rV_, tc_, go_sem, reduceEqDiff, reduceCtorEq, ↓reduceIte]
 refine ⟨by omega, by omega, ?_, _, rfl, (cU_ (by rw [hl_]; rfl) (Nat.le_refl _)).fresh, _, rfl⟩
 intro e he
 obtain ⟨x, _, q⟩ := mem_map.1 he; subst q; rfl
theorem k9_ {base base' : Nat} {H : List Row} {a r : AV} (h : c6_ base H a r) (hb : base' ≤ base) : c6_ base' H a r := (h.b.widen hb (Nat.le_refl _)).fresh
theorem t1_ {x : ad_} (k : x.Kind = 5) : bt_ x = bk_ x.Subs := by rw [bt_, if_pos k]
theorem tv_ {x : ad_} (k : x.Kind = 6) : bt_ x = [] := by rw [bt_, if_neg (by omega), if_pos k]
theorem s5_ {x : ad_} (k5 : ¬ x.Kind = 5) (k6 : ¬ x.Kind = 6) : bt_ x = x.Subs := by rw [bt_, if_neg k5, if_neg k6]
def c91 : LC :=
 .q [.o [.bx 1 47 0, .nl 2], .q [.o [.fa 3 0 1, .ln 4 3], .block 0 (.q [.o [.bk 6 .eql false 4 5, .m 5 6], .k 5 (.q [.o [.fa 7 2 1, .ln 8 7, .fa 9 2 1, .ln 10 9, .ll 11 10, .bk 12 .sub false 11 1, .s 13 (.sliceSl 1 (.tmp
 8) none (some (.tmp 12))), .c1 14 125 13, .m 2 14], .ret]) (.q [.o [.bk 16 .eql false 4 6, .m 15 16], .k 15 (.q [.o [.s 17 (.buildSlice 9 1 (.string ⟨#[]⟩) 0 []), .m 2 17], .ret]) .skip])])], .o [.fa 18 2 1, .ln 19 18,
 .c1 20 125 19, .m 2 20], .ret]
def oh_ : LF := ⟨1, 21, c91, [.tmp 2]⟩
theorem vU_ : av_ prog Tryz.f91 oh_ := ap_
theorem ir_ (x : ad_) (hx : ad_.sz x ≤ 1048576) (hp : x.Kind = 5 → 0 < x.Subs.length) : bj_ prog 91 [.agg (ad_.cells x)] (.list 0 1 ((bt_ x).map az_)) (fun a => ∃ l, a = .own l (bt_ x).length) := by
 refine dU_ mixed Tryz.func91 vU_ rfl (fun h0 => ?_)
 have h2 := b1_ (ad_.sz_Subs hx)
 have hfl : (bk_ x.Subs).length ≤ 1048576 := by rw [bk_, length_take]; omega
 by_cases k5 : x.Kind = 5
 ·have h0' := hp k5
  have hw : IntKind.i64.wrap ((x.Subs.length : Int) - 1) = ((x.Subs.length - 1 : Nat) : Int) := by rw [aq_ (n := (x.Subs.length : Int) - 1) (by omega) (by omega)]; omega
  have hfr : x.Subs.take (x.Subs.length - 1) = bk_ x.Subs := rfl
  rw [t1_ k5]
  simp (disch := omega) only [oh_, c91, ad_.cells, k5, hw, fx_, hfr, ao_, go_sem, reduceEqDiff, Nat.reduceAdd, ↓reduceIte]
  refine fo_ _ hfl _ _ (fun av hn hf hq => ?_)
  obtain ⟨l, rfl⟩ := hq
  simp (disch := omega) only [go_sem, ↓reduceIte]
  have hz := k9_ (base' := h0.length) hf (by simp)
  rw [append_assoc] at hz
  exact ⟨_, rfl, hz, _, rfl⟩
 ·by_cases k6 : x.Kind = 6
  ·rw [tv_ k6]
   simp (disch := omega) only [oh_, c91, ad_.cells, k6, Int.reduceEq, ao_, go_sem, reduceEqDiff, Nat.reduceAdd, ↓reduceIte]
   exact ⟨_, rfl, (cU_ (out := []) (E := 9) (by first | (rw [eZ_]; rfl) | (rw [eZ_]; simp)) (by omega)).fresh, _, rfl⟩
  ·rw [s5_ k5 k6]
   simp (disch := omega) only [oh_, c91, ad_.cells, k5, k6, ao_, go_sem, reduceEqDiff, Nat.reduceAdd, ↓reduceIte]
   refine fo_ _ h2 _ _ (fun av hn hf hq => ?_)
   obtain ⟨l, rfl⟩ := hq
   simp (disch := omega) only [go_sem, ↓reduceIte]
   have hz := k9_ (base' := h0.length) hf (by simp)
   rw [append_assoc] at hz
   exact ⟨_, rfl, hz, _, rfl⟩
theorem dJ_ (x : ad_) (hx : ad_.sz x ≤ 1048576) (hp : x.Kind = 5 → 0 < x.Subs.length) (h : List Row) : aa_ prog 91 [.agg (ad_.cells x)] h (.list 0 1 ((bt_ x).map az_)) := (ir_ x hx hp).pure rfl h
def c69 : LC :=
 .q [.o [.bx 2 47 0, .bx 3 47 1, .f 4], .dops [.ld 5 5 2, .c1 6 63 5, .m 7 6, .gl 8 7 false 5 3, .gc 9 7 false 63 8, .pt 10 7 9, .m 11 10, .gf 12 11 true 1 2, .gn 13 11 true 12, .gl 14 11 true 5 2, .gc 15 11 true 91 14,
 .gf 16 11 true 1 3, .gn 17 11 true 16, .gl 18 11 true 5 3, .gc 19 11 true 91 18, .g 20 11 true (.call 90 [.tmp 13, .tmp 15, .tmp 17, .tmp 19]), .pf 21 11 20, .m 4 21], .ret]
def uQ_ : LF := ⟨2, 22, c69, [.tmp 4]⟩
theorem vr_ : av_ prog Tryz.f69 uQ_ := ap_
theorem hQ_ (x y : ad_) (hx : ad_.sz x ≤ 1048576) (hy : ad_.sz y ≤ 1048576) (n1 : bo_ x = true) (n2 : bo_ y = true) (h : List Row) : aa_ prog 69 [.agg (ad_.cells x), .agg (ad_.cells y)] h (.val (.bool ((bO_ x || bO_ y) && way x.Name (bt_ x) y.Name (bt_ y)))) := by
 refine an_ mixed Tryz.func69 vr_ rfl rfl ?_ h
 have h1 := b1_ (ad_.sz_Subs hx)
 have h2 := b1_ (ad_.sz_Subs hy)
 have a1 := hn_ x
 have a2 := hn_ y
 simp (disch := omega) only [uQ_, c69, ad_.cells, go_sem, reduceEqDiff, Nat.reduceAdd, ↓reduceIte]
 repeat' (first
  | exact ae_ _ _
  | (refine ac_ ?_; simp only [*, Bool.and_true, Bool.true_and, Bool.and_false, Bool.false_and, Bool.or_true, Bool.true_or, Bool.or_false, Bool.false_or, Bool.not_true, Bool.not_false, decide_true, decide_false, Bool.and_self, Bool.or_self]; done)
  | simp (disch := omega) only [go_sem, reduceEqDiff, Nat.reduceAdd, ↓reduceIte]
  | (refine aa_.call (cS_ x _) ?_)
  | (refine aa_.q (cS_ x _) ?_)
  | (refine aa_.call (cS_ y _) ?_)
  | (refine aa_.q (cS_ y _) ?_)
  | (refine aa_.call (dJ_ x hx (dM_ n1) _) ?_)
  | (refine aa_.q (dJ_ x hx (dM_ n1) _) ?_)
  | (refine aa_.call (dJ_ y hy (dM_ n2) _) ?_)
  | (refine aa_.q (dJ_ y hy (dM_ n2) _) ?_)
  | (refine aa_.call (g5_ x.Name (bt_ x) y.Name (bt_ y) (by omega) (by omega) _) ?_)
  | (refine aa_.q (g5_ x.Name (bt_ x) y.Name (bt_ y) (by omega) (by omega) _) ?_)
  | ((first | (apply ay_; assumption) | (apply ax_; assumption) | (apply aD_; assumption) | (apply aE_; assumption)); intro hb; try simp only [hb])
  | ((first | (apply jq_; assumption) | (apply jT_; assumption) | (apply lH_; assumption) | (apply lJ_; assumption)); intro hb; try simp only [hb])
  | ((first | apply ak_ | apply al_ | apply fQ_ | apply gq_) <;> intro hb <;> (try simp only [hb]) <;> (first | have hp := aT_ hb | have hp := aS_ hb | have hp := aR_ hb | have hp := aU_ hb | skip)))
theorem iM_ (a b : Int) : [[AV.val (Value.int .i64 a), AV.val (Value.int .i64 b)]] = aC_ [(a, b)] := rfl
theorem iG_ (ps : List (Int × Int)) : ∀ e ∈ aC_ ps, e.all AV.cell = true := by
 intro e he
 obtain ⟨z, _, q⟩ := mem_map.1 he
 subst q; rfl
def bB_ (a b : ab_) : Bool := du_ a.Event b.Event
theorem oU_ {α : Type} (job : α → Int) (conf : α → α → Bool) (pre : List α) (b : α) (j : Nat) (h : j < pre.length) : gv_ job conf (pre.take (j + 1)) b = if (!decide (job pre[j] = job b) && conf pre[j] b) then gv_ job conf (pre.take j) b ++ [(job pre[j], job b)] else gv_ job conf (pre.take j) b := by
 unfold gv_
 rw [take_succ_eq_append_getElem h, filter_append]
 cases q : (!decide (job pre[j] = job b) && conf pre[j] b) <;> simp [q]
def mr_ (xs : List ab_) : List (Int × Int) := aZ_ (fR_ (ii_ ab_.Job bB_ xs xs.length))
theorem g3_ (x : ab_) : ab_.cells x = [.val (.int .i64 x.Job), .val (.int .i64 x.Event.Kind), .val (.string x.Event.Name), .list 0 1 (x.Event.Subs.map az_), .val (.string x.Event.Value), .val (.int .i64 x.Event.N)] := rfl
def c24 : LC :=
 .q [.o [.nl 2], .o [.s 8 (.buildSlice 53 2 z0z 0 []), .m 3 8], .q [.o [.m 9 0, .ll 10 9, .ki 11 0], .block 0 (.loop (.q [.o [.bb 12 .lss false 11 10], .k 12 .skip (.exit 0), .block 1 (.q [.o [.m 13 11, .ia 14 6 9 11, .ld
 15 6 14, .s 5 (.alloc 49 (.agg #[.int .i64 0, .int .i64 0, .string ⟨#[]⟩, .slice none 0 0, .string ⟨#[]⟩, .int .i64 0])), .m 4 13, .st 6 5 15], .o [.m 16 0, .m 17 4, .s 18 (.sliceSl 6 (.tmp 16) none (some (.tmp 17))),
 .ll 19 18, .ki 20 0], .block 2 (.loop (.q [.o [.bb 21 .lss false 20 19], .k 21 .skip (.exit 2), .block 3 (.q [.o [.ia 22 6 18 20, .ld 23 6 22, .s 7 (.alloc 49 (.agg #[.int .i64 0, .int .i64 0, .string ⟨#[]⟩, .slice none
 0 0, .string ⟨#[]⟩, .int .i64 0])), .st 6 7 23], .o [.fa 24 0 7, .ln 25 24, .fa 26 0 5, .ln 27 26, .bb 28 .neq false 25 27, .m 29 28, .gf 30 29 true 1 7, .gl 31 29 true 5 30, .gf 32 29 true 1 5, .gl 33 29 true 5 32, .g
 34 29 true (.call 47 [.tmp 31, .tmp 33]), .pf 35 29 34], .k 35 (.o [.m 36 3, .fa 37 0 7, .ln 38 37, .fa 39 0 5, .ln 40 39, .s 41 (.build z0z [(0, 1), (1, 1)] [(0, .tmp 38), (1, .tmp 40)]), .s 42 (.buildSlice 53 2 z0z 1
 [(0, .tmp 41)]), .ap 43 53 2 16 36 42, .m 3 43]) .skip]), .o [.bk 44 .add false 20 1, .m 20 44]]))]), .o [.bk 45 .add false 11 1, .m 11 45]]))], .o [.m 46 3, .s 47 (.call 48 [.tmp 46, .func 49])], .o [.m 48 3, .c1 49 52
 48, .m 2 49], .ret]
def ti_ : LF := ⟨1, 50, c24, [.tmp 2]⟩
theorem vQ_ : av_ Tryz.prog Tryz.f24 ti_ := ap_
theorem il_ (xs : List ab_) (hs : aG_ ab_.sz xs ≤ 1048576) (h60 : xs.length ≤ 60) : bj_ Tryz.prog 24 [.list 0 6 (xs.map ab_.cells)] (.list 0 2 (aC_ (mr_ xs))) (fun a => True) := by
 refine gd_ mixed Tryz.func24 vQ_ rfl (fun h0 => ?_)
 have hm : ∀ x ∈ xs, ab_.sz x ≤ 1048576 := fun x hx => by have := cR_ (f := ab_.sz) hx; omega
 have hcf : ∀ (a b : ab_) (H : List Row), a ∈ xs → b ∈ xs → aa_ Tryz.prog 47 [.agg [.val (.int .i64 a.Event.Kind), .val (.string a.Event.Name), .list 0 1 (a.Event.Subs.map az_), .val (.string a.Event.Value), .val (.int .i64 a.Event.N)], .agg [.val (.int .i64 b.Event.Kind), .val (.string b.Event.Name), .list 0 1 (b.Event.Subs.map az_), .val (.string b.Event.Value), .val (.int .i64 b.Event.N)]] H (.val (.bool (bB_ a b))) :=
  fun a b H ha hb => iz_ a.Event b.Event (ab_.sz_Event (hm a ha)) (ab_.sz_Event (hm b hb)) H
 simp (disch := (first | omega | (simp only [ls_, la_, lc_, ln_]; first | done | omega))) only [go_sem, reduceCtorEq, ↓reduceIte, ti_, c24]
 refine aJ_ (fun m t h => ∃ (k : Nat) (out : List (Int × Int)), t 0 = .list 0 6 (xs.map ab_.cells) ∧ t 3 = .own h0.length out.length ∧ t 9 = .list 0 6 (xs.map ab_.cells) ∧ t 10 = .val (.int .i64 xs.length) ∧ t 11 = .val (.int .i64 k) ∧ bA_ h0 h ∧ h[h0.length]? = some ⟨.ty 53, 2, aC_ out⟩ ∧ m = xs.length - k ∧ k ≤ xs.length ∧ out.length ≤ 60 * k ∧ out = ii_ ab_.Job bB_ xs k) xs.length ⟨0, [], rfl, rfl, rfl, rfl, rfl, bA_.app _ _, dv_ rfl, rfl, Nat.zero_le _, Nat.le_refl _, rfl⟩ ?_
 rintro J hJ m t h ⟨k, out, t0, t3, t9, t10, t11, mo, o0, rfl, hk, ho, hS⟩
 have hll := (List.getElem?_eq_some_iff.1 o0).1
 by_cases hlt : k < xs.length
 case neg =>
  have e : k = xs.length := by omega
  subst e
  simp (disch := (first | omega | (simp only [ls_, la_, lc_, ln_]; first | done | omega))) only [go_sem, reduceEqDiff, ↓reduceIte, t3, t10, t11, hlt]
  refine e4_ o0 (by omega) ?_
  simp (disch := (first | omega | (simp only [ls_, la_, lc_, ln_]; first | done | omega))) only [go_sem, reduceEqDiff, ↓reduceIte, t3]
  have hsl : (fR_ out).length = out.length := pO_ _
  have o1 : (h.set h0.length ⟨.ty 53, 2, aC_ (fR_ out)⟩)[h0.length]? = some ⟨.ty 53, 2, aC_ (fR_ out)⟩ := jc_ hll
  rw [← hsl]
  refine fs_ (by omega) o1 (fun a r' hr hf => ?_)
  simp (disch := (first | omega | (simp only [ls_, la_, lc_, ln_]; first | done | omega))) only [go_sem, ↓reduceIte, set_set]
  rw [mr_, ← hS]
  rw [set_set] at hf
  exact ⟨mo.set (Nat.le_refl _), hf.widen (Nat.le_refl _) (by simp; omega)⟩
 have hbm : xs[k] ∈ xs := getElem_mem hlt
 have hkl : ((k : Int) < (xs.length : Int)) = True := eq_true (by omega)
 have htl : (xs.take k).length = k := by rw [length_take]; omega
 simp (disch := (first | omega | (simp only [ls_, la_, lc_, ln_]; first | done | omega))) only [dv_, go_sem, reduceEqDiff, Nat.reduceAdd, reduceCtorEq, ↓reduceIte, t0, t9, t10, t11, hlt, g3_]
 refine aJ_ (fun m t h2 => ∃ (j : Nat) (o2 : List (Int × Int)), t 0 = .list 0 6 (xs.map ab_.cells) ∧ t 3 = .own h0.length o2.length ∧ t 5 = .ptr h.length 1 0 0 ∧ t 9 = .list 0 6 (xs.map ab_.cells) ∧ t 10 = .val (.int .i64 xs.length) ∧ t 11 = .val (.int .i64 k) ∧ t 18 = .list 0 6 ((xs.map ab_.cells).take k) ∧ t 19 = .val (.int .i64 k) ∧ t 20 = .val (.int .i64 j) ∧ bA_ h0 h2 ∧ h2[h0.length]? = some ⟨.ty 53, 2, aC_ o2⟩ ∧ h2[h.length]? = some ⟨.ty 49, 6, [ab_.cells xs[k]]⟩ ∧ m = k - j ∧ j ≤ k ∧ o2.length ≤ 60 * k + j ∧ o2 = out ++ gv_ ab_.Job bB_ ((xs.take k).take j) xs[k]) k ⟨0, out, by simp [upd, t0], by simp [upd, t3], by simp [upd], by simp [upd, t9], by simp [upd, t10], by simp [upd, t11], by simp [upd], by simp [upd]; omega, by simp [upd], ?_, ?_, ?_, rfl, Nat.zero_le _, by omega, by simp [gv_]⟩ ?_
 ·exact mo.add _
 ·exact s0_ o0
 ·exact dv_ rfl
 rintro J2 hJ2 m t h2 ⟨j, o2, u0, u3, u5, u9, u10, u11, u18, u19, u20, mo2, p0, pb, rfl, hj, hol, hS2⟩
 have hl0 := (List.getElem?_eq_some_iff.1 p0).1
 have hlb := (List.getElem?_eq_some_iff.1 pb).1
 by_cases hjk : j < k
 case neg =>
  have e : j = k := by omega
  subst e
  have hnext : o2 = ii_ ab_.Job bB_ xs (j + 1) := by
   rw [hS2, ii_, getElem?_eq_getElem hlt, hS, take_of_length_le (Nat.le_of_eq htl)]
  simp (disch := (first | omega | (simp only [ls_, la_, lc_, ln_]; first | done | omega))) only [go_sem, reduceEqDiff, ↓reduceIte, u11, u19, u20, hjk, aq_]
  exact ⟨xs.length - (j + 1), by omega, hJ _ _ _ ⟨j + 1, o2, by simp [upd, u0], by simp [upd, u3], by simp [upd, u9], by simp [upd, u10], by simp [upd], mo2, p0, rfl, by omega, by omega, hnext⟩⟩
 have hjx : j < xs.length := by omega
 have ham : xs[j] ∈ xs := getElem_mem hjx
 have hgj : ((xs.map ab_.cells).take k)[j]? = some (ab_.cells xs[j]) := by
  rw [getElem?_take, if_pos hjk, getElem?_map, getElem?_eq_getElem hjx]; rfl
 have hst := oU_ ab_.Job bB_ (xs.take k) xs[k] j (by omega)
 rw [getElem_take] at hst
 have hlt18 : ((xs.map ab_.cells).take k).length = k := by rw [length_take, length_map]; omega
 rw [g3_] at pb hgj
 have next : ∀ (t' : Nat → AV) (h' : List Row) (o3 : List (Int × Int)), t' 0 = .list 0 6 (xs.map ab_.cells) → t' 3 = .own h0.length o3.length → t' 5 = .ptr h.length 1 0 0 → t' 9 = .list 0 6 (xs.map ab_.cells) → t' 10 = .val (.int .i64 xs.length) → t' 11 = .val (.int .i64 k) → t' 18 = .list 0 6 ((xs.map ab_.cells).take k) → t' 19 = .val (.int .i64 k) → t' 20 = .val (.int .i64 (j + 1 : Nat)) → bA_ h0 h' → h'[h0.length]? = some ⟨.ty 53, 2, aC_ o3⟩ → h'[h.length]? = h2[h.length]? → o3.length ≤ o2.length + 1 → o3 = out ++ gv_ ab_.Job bB_ ((xs.take k).take (j + 1)) xs[k] → ∃ m, m < k - j ∧ J2 m t' h' :=
  fun t' h' o3 e0 e3 e5 e9 e10 e11 e18 e19 e20 e21 e22 e23 e24 e25 => ⟨k - (j + 1), by omega, hJ2 _ _ _ ⟨j + 1, o3, e0, e3, e5, e9, e10, e11, e18, e19, e20, e21, e22, e23.trans pb, rfl, by omega, by omega, e25⟩⟩
 by_cases hjob : xs[j].Job = xs[k].Job
 ·have hjob' : (xs[j].Job = xs[k].Job) = True := eq_true hjob
  rw [decide_eq_true hjob] at hst
  simp (disch := (first | omega | (simp only [ls_, la_, lc_, ln_]; first | done | omega))) only [dt_, dv_, go_sem, reduceEqDiff, Nat.reduceAdd, ↓reduceIte, u5, u18, u19, u20, pb, hgj, hjk, hjob', aq_]
  exact next _ _ o2 (by simp [upd, u0]) (by simp [upd, u3]) (by simp [upd, u5]) (by simp [upd, u9]) (by simp [upd, u10]) (by simp [upd, u11]) (by simp [upd, u18]) (by simp [upd, u19]) (by simp [upd]) (mo2.add _) (by (repeat (first | rw [g2_ (by omega)] | rw [dt_ (by first | omega | (simp only [ls_, la_, lc_, ln_]; omega))])); exact p0) (by (repeat (first | rw [g2_ (by omega)] | rw [dt_ (by first | omega | (simp only [ls_, la_, lc_, ln_]; omega))]))) (by omega) (by rw [hst]; exact hS2)
 ·have hjob' : (xs[j].Job = xs[k].Job) = False := eq_false hjob
  rw [decide_eq_false hjob] at hst
  simp (disch := (first | omega | (simp only [ls_, la_, lc_, ln_]; first | done | omega))) only [dt_, dv_, go_sem, reduceEqDiff, Nat.reduceAdd, ↓reduceIte, u5, u18, u19, u20, pb, hgj, hjk, hjob']
  refine aa_.call (hcf _ _ _ ham hbm) ?_
  cases hcv : bB_ xs[j] xs[k]
  ·rw [hcv] at hst
   simp (disch := (first | omega | (simp only [ls_, la_, lc_, ln_]; first | done | omega))) only [go_sem, reduceEqDiff, ↓reduceIte, u20, aq_]
   exact next _ _ o2 (by simp [upd, u0]) (by simp [upd, u3]) (by simp [upd, u5]) (by simp [upd, u9]) (by simp [upd, u10]) (by simp [upd, u11]) (by simp [upd, u18]) (by simp [upd, u19]) (by simp [upd]) (mo2.add _) (by (repeat (first | rw [g2_ (by omega)] | rw [dt_ (by first | omega | (simp only [ls_, la_, lc_, ln_]; omega))])); exact p0) (by (repeat (first | rw [g2_ (by omega)] | rw [dt_ (by first | omega | (simp only [ls_, la_, lc_, ln_]; omega))]))) (by omega) (by rw [hst]; exact hS2)
  ·rw [hcv] at hst
   simp (disch := (first | omega | (simp only [ls_, la_, lc_, ln_]; first | done | omega))) only [dt_, dv_, pG_, go_sem, reduceEqDiff, Nat.reduceAdd, reduceLeDiff, ↓reduceIte, u3, u5, u20, p0, pb, fh_, Option.map_some, AV.cell, all_cons, all_nil, bd_, iM_, hf_, aq_]
   repeat (refine And.intro (by first | omega | exact fT_ _ | exact iG_ _ | (simp; done)) ?_)
   refine next _ _ (o2 ++ [(xs[j].Job, xs[k].Job)]) (by simp [upd, u0]) (by simp [upd]) (by simp [upd, u5]) (by simp [upd, u9]) (by simp [upd, u10]) (by simp [upd, u11]) (by simp [upd, u18]) (by simp [upd, u19]) (by simp [upd]) ?_ ?_ ?_ (by simp) (by rw [hst, hS2]; simp)
   ·exact (mo2.add _).set (Nat.le_refl _)
   ·exact jc_ (by simp; omega)
   ·rw [g2_ (by omega), dt_ (by omega)]
def pm_ (p : Int × Int) : bb_ := ⟨p.1, p.2⟩
theorem mN_ (ps : List (Int × Int)) : aC_ ps = (ps.map pm_).map bb_.cells := by
 rw [map_map]; rfl
def bu_ (xs : List ab_) : List bb_ × Int := if bZ_ xs = true then ((fv_ ab_.Job bB_ xs).map pm_, 0) else ([], 1)
def f2_ (r : List bb_ × Int) : AV := .tup [.list 0 2 (r.1.map bb_.cells), .val (.int .i64 r.2)]
theorem iq_ {xs : List ab_} (h : bZ_ xs = true) : f2_ (bu_ xs) = .tup [.list 0 2 (aC_ (fv_ ab_.Job bB_ xs)), .val (.int .i64 0)] := by
 rw [mN_, bu_, if_pos h]; rfl
theorem iH_ {xs : List ab_} (h : bZ_ xs = false) : f2_ (bu_ xs) = .tup [.list 0 2 [], .val (.int .i64 1)] := by
 rw [bu_, h]; rfl
theorem gQ_ {xs : List ab_} (h : bZ_ xs = true) : (∀ x ∈ xs, 1 ≤ x.Job ∧ x.Job ≤ 4) ∧ xs.length ≤ 60 ∧ ∀ x ∈ xs, bo_ x.Event = true := by
 simp only [bZ_, Bool.and_eq_true, decide_eq_true_eq, all_eq_true, b2_] at h
 refine ⟨fun x hx => ?_, by omega, fun x hx => (h.2 x hx).2⟩
 have := (h.2 x hx).1
 simp only [cg_, Bool.and_eq_true, decide_eq_true_eq] at this
 omega
theorem m0_ {xs : List ab_} (h : bZ_ xs = true) : mr_ xs = fv_ ab_.Job bB_ xs := n3_ ab_.Job bB_ xs (gQ_ h).1
theorem oz_ (xs : List ab_) : (fv_ ab_.Job bB_ xs).length ≤ 16 := length_filter_le _ _
theorem rb_ (xs : List ab_) : aG_ (fun _ : bb_ => 0) (bu_ xs).1 ≤ 1048576 := by
 have e : ∀ l : List bb_, aG_ (fun _ : bb_ => 0) l = l.length := fun l => nz_ l
 rw [e]
 unfold bu_
 split
 ·have := oz_ xs
  rw [length_map]; omega
 ·simp
def c8 : LC :=
 .q [.o [.nl 2, .ki 3 0], .q [.o [.m 4 0, .c1 5 23 4, .nt 6 5], .k 6 (.q [.o [.nl 2, .ki 3 1], .ret]) .skip], .o [.m 7 0, .c1 8 24 7, .m 2 8, .ki 3 0], .ret]
def lf8 : LF := ⟨1, 9, c8, [.tmp 2, .tmp 3]⟩
theorem v8_ : av_ Tryz.prog Tryz.f8 lf8 := ap_
theorem dT_ (xs : List ab_) (hs : aG_ ab_.sz xs ≤ 1048576) : bj_ Tryz.prog 8 [.list 0 6 (xs.map ab_.cells)] (f2_ (bu_ xs)) (fun a => ∃ b q, a = .tup [b, .val (.int .i64 q)]) := by
 refine gd_ mixed Tryz.func8 v8_ rfl (fun h0 => ?_)
 simp (disch := (first | omega | (simp only [ls_, la_, lc_, ln_]; first | done | omega))) only [go_sem, reduceCtorEq, ↓reduceIte, lf8, c8]
 refine aa_.call (jf_ xs hs _) ?_
 cases q : bZ_ xs
 ·simp (disch := (first | omega | (simp only [ls_, la_, lc_, ln_]; first | done | omega))) only [go_sem, reduceEqDiff, ↓reduceIte]
  rw [iH_ q]
  exact ⟨⟨bA_.refl _, aB_.pair (aB_.mknil _ _ _ 2) (by simp) _⟩, _, _, rfl⟩
 simp (disch := (first | omega | (simp only [ls_, la_, lc_, ln_]; first | done | omega))) only [go_sem, reduceCtorEq, ↓reduceIte]
 refine gS_ (il_ xs hs (gQ_ q).2.1) (fun av H1 m1 F1 _ => ?_)
 simp (disch := (first | omega | (simp only [ls_, la_, lc_, ln_]; first | done | omega))) only [go_sem, reduceEqDiff, ↓reduceIte]
 rw [iq_ q, ← m0_ q]
 exact ⟨⟨m1, aB_.pair F1.tree m1.len _⟩, _, _, rfl⟩
theorem rc_ {α : Type} (job : α → Int) (conf : α → α → Bool) (f t : Int) (xs : List α) (i : Nat) (h : i < xs.length) : d1_ job conf f t (xs.drop i) = ((decide (job xs[i] = f) && (xs.drop (i + 1)).any fun b => decide (job b = t) && conf xs[i] b) || d1_ job conf f t (xs.drop (i + 1))) := by
 rw [drop_eq_getElem_cons h]; rfl
theorem sw_ {α : Type} (p : α → Bool) (xs : List α) (k : Nat) (h : k < xs.length) : (xs.drop k).any p = (p xs[k] || (xs.drop (k + 1)).any p) := by
 rw [drop_eq_getElem_cons h]; rfl
def ToB (a : ab_) (t : Int) (b : ab_) : Bool := decide (b.Job = t) && bB_ a b
def c41 : LC :=
 .q [.o [.f 6], .q [.o [.ki 7 0], .block 0 (.loop (.q [.q [.o [.m 9 7, .m 10 0, .ll 11 10, .bb 12 .lss false 9 11], .k 12 .skip (.exit 0)], .block 1 (.q [.o [.m 15 7, .bk 16 .add false 15 1, .m 8 16], .block 2 (.loop (.q
 [.q [.o [.m 17 8, .m 18 0, .ll 19 18, .bb 20 .lss false 17 19], .k 20 .skip (.exit 2)], .block 3 (.q [.dops [.m 23 0, .m 24 7, .ia 25 6 23 24, .fa 26 0 25, .ln 27 26, .m 28 1, .bb 29 .eql false 27 28, .m 30 29, .gm 31 30
 true 0, .gm 32 30 true 8, .g 33 30 true (.indexAddr 6 (.tmp 31) (.tmp 32)), .gf 34 30 true 0 33, .gn 35 30 true 34, .gm 36 30 true 2, .g 37 30 true (.bin .eql false (.tmp 35) (.tmp 36)), .pf 38 30 37, .m 39 38, .gm 40 39
 true 0, .gm 41 39 true 7, .g 42 39 true (.indexAddr 6 (.tmp 40) (.tmp 41)), .gf 43 39 true 1 42, .gl 44 39 true 5 43, .gm 45 39 true 0, .gm 46 39 true 8, .g 47 39 true (.indexAddr 6 (.tmp 45) (.tmp 46)), .gf 48 39 true 1
 47, .gl 49 39 true 5 48, .g 50 39 true (.call 69 [.tmp 44, .tmp 49]), .pf 51 39 50], .k 51 (.q [.o [.t 6], .ret]) .skip]), .o [.m 21 8, .bk 22 .add false 21 1, .m 8 22]]))]), .o [.m 13 7, .bk 14 .add false 13 1, .m 7
 14]]))], .o [.f 6], .ret]
def uD_ : LF := ⟨3, 52, c41, [.tmp 6]⟩
theorem vc_ : av_ Tryz.prog Tryz.f41 uD_ := ap_
theorem jU_ (xs : List ab_) (f g : Int) (hs : aG_ ab_.sz xs ≤ 1048576) (h60 : xs.length ≤ 60) (hn : ∀ x ∈ xs, bo_ x.Event = true) (h : List Row) : aa_ Tryz.prog 41 [.list 0 6 (xs.map ab_.cells), .val (.int .i64 f), .val (.int .i64 g)] h (.val (.bool (d1_ ab_.Job bB_ f g xs))) := by
 refine an_ mixed Tryz.func41 vc_ rfl rfl ?_ h
 have hm : ∀ x ∈ xs, ab_.sz x ≤ 1048576 := fun x hx => by have := cR_ (f := ab_.sz) hx; omega
 have hcf : ∀ (a b : ab_) (H : List Row), a ∈ xs → b ∈ xs → aa_ Tryz.prog 69 [.agg [.val (.int .i64 a.Event.Kind), .val (.string a.Event.Name), .list 0 1 (a.Event.Subs.map az_), .val (.string a.Event.Value), .val (.int .i64 a.Event.N)], .agg [.val (.int .i64 b.Event.Kind), .val (.string b.Event.Name), .list 0 1 (b.Event.Subs.map az_), .val (.string b.Event.Value), .val (.int .i64 b.Event.N)]] H (.val (.bool (bB_ a b))) := by
  intro a b H ha hb
  have := hQ_ a.Event b.Event (ab_.sz_Event (hm a ha)) (ab_.sz_Event (hm b hb)) (hn a ha) (hn b hb) H
  have e : bB_ a b = ((bO_ a.Event || bO_ b.Event) && way a.Event.Name (bt_ a.Event) b.Event.Name (bt_ b.Event)) := by
   simp only [bB_, du_, hn a ha, hn b hb, Bool.true_and]
  rw [e]; exact this
 simp (disch := omega) only [uD_, c41, go_sem]
 refine aJ_ (fun m t h => ∃ (i : Nat), t 0 = .list 0 6 (xs.map ab_.cells) ∧ t 1 = .val (.int .i64 f) ∧ t 2 = .val (.int .i64 g) ∧ t 7 = .val (.int .i64 i) ∧ m = xs.length - i ∧ i ≤ xs.length ∧ d1_ ab_.Job bB_ f g xs = d1_ ab_.Job bB_ f g (xs.drop i)) xs.length ⟨0, rfl, rfl, rfl, rfl, rfl, Nat.zero_le _, rfl⟩ ?_
 rintro J hJ m t h ⟨i, t0, t1, t2, t7, rfl, hi, hS⟩
 by_cases hlt : i < xs.length
 case neg =>
  simp (disch := omega) only [t0, t7, hlt, go_sem, reduceEqDiff, reduceCtorEq, ↓reduceIte]
  refine ac_ ?_
  rw [hS, drop_eq_nil_of_le (by omega)]; rfl
 have ham : xs[i] ∈ xs := getElem_mem hlt
 rw [rc_ ab_.Job bB_ f g xs i hlt] at hS
 simp (disch := omega) only [t0, t7, hlt, aq_, go_sem, reduceEqDiff, reduceCtorEq, ↓reduceIte]
 refine aJ_ (fun m t h => ∃ (k : Nat), t 0 = .list 0 6 (xs.map ab_.cells) ∧ t 1 = .val (.int .i64 f) ∧ t 2 = .val (.int .i64 g) ∧ t 7 = .val (.int .i64 i) ∧ t 8 = .val (.int .i64 k) ∧ m = xs.length - k ∧ i < k ∧ k ≤ xs.length ∧ d1_ ab_.Job bB_ f g xs = ((decide (xs[i].Job = f) && (xs.drop k).any (ToB xs[i] g)) || d1_ ab_.Job bB_ f g (xs.drop (i + 1)))) (xs.length - (i + 1)) ⟨i + 1, by simp [upd, t0], by simp [upd, t1], by simp [upd, t2], by simp [upd, t7], by simp [upd], rfl, by omega, by omega, hS⟩ ?_
 clear t0 t1 t2 t7 hS
 rintro J2 hJ2 m t h ⟨k, t0, t1, t2, t7, t8, rfl, hik, hk, hS⟩
 by_cases hlk : k < xs.length
 case neg =>
  rw [drop_eq_nil_of_le (show xs.length ≤ k by omega)] at hS
  simp only [any_nil, Bool.and_false, Bool.false_or] at hS
  simp (disch := omega) only [t0, t7, t8, hlk, aq_, go_sem, reduceEqDiff, reduceCtorEq, ↓reduceIte]
  exact ⟨xs.length - (i + 1), by omega, hJ _ _ _ ⟨i + 1, by simp [upd, t0], by simp [upd, t1], by simp [upd, t2], by simp [upd], rfl, by omega, hS⟩⟩
 have hbm : xs[k] ∈ xs := getElem_mem hlk
 rw [sw_ _ xs k hlk] at hS
 have next : (decide (xs[i].Job = f) && ToB xs[i] g xs[k]) = false → ∀ t' h', t' 0 = .list 0 6 (xs.map ab_.cells) → t' 1 = .val (.int .i64 f) → t' 2 = .val (.int .i64 g) → t' 7 = .val (.int .i64 i) → t' 8 = .val (.int .i64 (k + 1 : Nat)) → ∃ m, m < xs.length - k ∧ J2 m t' h' := by
  intro hq t' h' e0 e1 e2 e7 e8
  refine ⟨xs.length - (k + 1), by omega, hJ2 _ _ _ ⟨k + 1, e0, e1, e2, e7, e8, rfl, by omega, by omega, ?_⟩⟩
  rw [hS, Bool.and_or_distrib_left, hq, Bool.false_or]
 by_cases h1 : xs[i].Job = f
 case neg =>
  have h1' : (xs[i].Job = f) = False := eq_false h1
  simp (disch := omega) only [t0, t1, t7, t8, hlk, h1', g3_, aq_, go_sem, reduceEqDiff, Nat.reduceAdd, reduceCtorEq, ↓reduceIte]
  exact next (by simp [h1]) _ _ (by simp [upd, t0]) (by simp [upd, t1]) (by simp [upd, t2]) (by simp [upd, t7]) (by simp [upd])
 have h1' : (xs[i].Job = f) = True := eq_true h1
 by_cases h2 : xs[k].Job = g
 case neg =>
  have h2' : (xs[k].Job = g) = False := eq_false h2
  simp (disch := omega) only [t0, t1, t2, t7, t8, hlk, h1', h2', g3_, aq_, go_sem, reduceEqDiff, Nat.reduceAdd, reduceCtorEq, ↓reduceIte]
  exact next (by simp [ToB, h2]) _ _ (by simp [upd, t0]) (by simp [upd, t1]) (by simp [upd, t2]) (by simp [upd, t7]) (by simp [upd])
 have h2' : (xs[k].Job = g) = True := eq_true h2
 simp (disch := omega) only [t0, t1, t2, t7, t8, hlk, h1', h2', g3_, go_sem, reduceEqDiff, Nat.reduceAdd, reduceLeDiff, reduceCtorEq, ↓reduceIte]
 first | refine aa_.q (hcf _ _ _ ham hbm) ?_ | refine aa_.call (hcf _ _ _ ham hbm) ?_
 cases hcv : bB_ xs[i] xs[k]
 ·simp (disch := omega) only [t8, aq_, go_sem, reduceEqDiff, ↓reduceIte]
  exact next (by simp [ToB, hcv]) _ _ (by simp [upd, t0]) (by simp [upd, t1]) (by simp [upd, t2]) (by simp [upd, t7]) (by simp [upd])
 ·simp (disch := omega) only [go_sem, ↓reduceIte]
  refine ac_ ?_
  rw [hS]; simp [ToB, h1, h2, hcv]
def c21 : LC :=
 .q [.o [.nl 2], .o [.s 6 (.buildSlice 53 2 z0z 0 []), .m 3 6], .q [.o [.ki 4 1], .block 0 (.loop (.q [.q [.o [.m 7 4, .bk 8 .leq false 7 4], .k 8 .skip (.exit 0)], .block 1 (.q [.o [.ki 5 1], .block 2 (.loop (.q [.q [.o
 [.m 11 5, .bk 12 .leq false 11 4], .k 12 .skip (.exit 2)], .block 3 (.q [.o [.m 15 4, .m 16 5, .bb 17 .neq false 15 16, .m 18 17, .gm 19 18 true 0, .gm 20 18 true 4, .gm 21 18 true 5, .g 22 18 true (.call 41 [.tmp 19,
 .tmp 20, .tmp 21]), .pf 23 18 22], .k 23 (.o [.m 24 3, .m 25 4, .m 26 5, .s 27 (.build z0z [(0, 1), (1, 1)] [(0, .tmp 25), (1, .tmp 26)]), .s 28 (.buildSlice 53 2 z0z 1 [(0, .tmp 27)]), .ap 29 53 2 16 24 28, .m 3 29])
 .skip]), .o [.m 13 5, .bk 14 .add false 13 1, .m 5 14]]))]), .o [.m 9 4, .bk 10 .add false 9 1, .m 4 10]]))], .o [.m 30 3, .m 2 30], .ret]
def s2_ : LF := ⟨1, 31, c21, [.tmp 2]⟩
theorem vI_ : av_ Tryz.prog Tryz.f21 s2_ := ap_
def c6 : LC :=
 .q [.o [.nl 2, .ki 3 0], .q [.o [.m 4 0, .c1 5 20 4, .nt 6 5], .k 6 (.q [.o [.s 7 (.buildSlice 53 2 z0z 0 []), .m 2 7, .ki 3 1], .ret]) .skip], .o [.m 8 0, .c1 9 21 8, .m 2 9, .ki 3 0], .ret]
def lf6 : LF := ⟨1, 10, c6, [.tmp 2, .tmp 3]⟩
theorem wj_ : av_ Tryz.prog Tryz.f6 lf6 := ap_
theorem hP_ (xs : List ab_) (hs : aG_ ab_.sz xs ≤ 1048576) (h60 : xs.length ≤ 60) (hn : ∀ x ∈ xs, bo_ x.Event = true) : bj_ Tryz.prog 21 [.list 0 6 (xs.map ab_.cells)] (.list 0 2 (aC_ (fv_ ab_.Job bB_ xs))) (fun a => ∃ l n, a = .own l n) := by
 refine gd_ mixed Tryz.func21 vI_ rfl (fun h0 => ?_)
 let Q := o1_ ab_.Job bB_ xs
 simp (disch := (first | omega | (simp only [ls_, la_, lc_, ln_]; first | done | omega))) only [go_sem, ↓reduceIte, s2_, c21]
 refine aJ_ (fun m t h => ∃ (k : Nat), t 0 = .list 0 6 (xs.map ab_.cells) ∧ t 3 = .own h0.length (cM_ Q k 0).length ∧ t 4 = .val (.int .i64 ((k : Int) + 1)) ∧ bA_ h0 h ∧ h[h0.length]? = some ⟨.ty 53, 2, aC_ (cM_ Q k 0)⟩ ∧ m = 4 - k ∧ k ≤ 4) 4 ⟨0, rfl, rfl, rfl, bA_.app _ _, dv_ rfl, rfl, Nat.zero_le _⟩ ?_
 rintro J hJ m t h ⟨k, t0, t3, t4, mo, o0, rfl, hk⟩
 have hll := (List.getElem?_eq_some_iff.1 o0).1
 by_cases hlt : k < 4
 case neg =>
  have e : k = 4 := by omega
  subst e
  have e1 : (((4 : Nat) : Int) + 1 ≤ 4) = False := eq_false (by omega)
  simp (disch := (first | omega | (simp only [ls_, la_, lc_, ln_]; first | done | omega))) only [go_sem, reduceEqDiff, ↓reduceIte, t3, t4, e1]
  rw [show fv_ ab_.Job bB_ xs = cM_ Q 4 0 from (of_ Q).symm]
  exact ⟨⟨mo, ⟨2, [h0.length], ⟨_, _, [], o0, bd_ _, es_ _, rfl, rfl⟩, by simp, by simp; omega⟩⟩, _, _, rfl⟩
 have e1 : ((k : Int) + 1 ≤ 4) = True := eq_true (by omega)
 simp (disch := (first | omega | (simp only [ls_, la_, lc_, ln_]; first | done | omega))) only [go_sem, ↓reduceIte, t4, e1]
 refine aJ_ (fun m t h => ∃ (j : Nat), t 0 = .list 0 6 (xs.map ab_.cells) ∧ t 3 = .own h0.length (cM_ Q k j).length ∧ t 4 = .val (.int .i64 ((k : Int) + 1)) ∧ t 5 = .val (.int .i64 ((j : Int) + 1)) ∧ bA_ h0 h ∧ h[h0.length]? = some ⟨.ty 53, 2, aC_ (cM_ Q k j)⟩ ∧ m = 4 - j ∧ j ≤ 4) 4 ⟨0, by simp [upd, t0], by simp [upd, t3], by simp [upd, t4], by simp [upd], mo, o0, rfl, Nat.zero_le _⟩ ?_
 clear t0 t3 t4 mo o0 hll
 rintro J2 hJ2 m t h ⟨j, t0, t3, t4, t5, mo, o0, rfl, hj⟩
 have hll := (List.getElem?_eq_some_iff.1 o0).1
 by_cases hjt : j < 4
 case neg =>
  have e : j = 4 := by omega
  subst e
  have e2 : (((4 : Nat) : Int) + 1 ≤ 4) = False := eq_false (by omega)
  simp (disch := (first | omega | (simp only [ls_, la_, lc_, ln_]; first | done | omega))) only [go_sem, reduceEqDiff, ↓reduceIte, t4, t5, e2, aq_]
  rw [← pd_] at t3 o0
  exact ⟨4 - (k + 1), by omega, hJ _ _ _ ⟨k + 1, by simp [upd, t0], by simp [upd, t3], by simp [upd], mo, o0, rfl, by omega⟩⟩
 have e2 : ((j : Int) + 1 ≤ 4) = True := eq_true (by omega)
 have hst := nA_ Q k j
 have hgl := oI_ Q k j
 have hQ : Q ((k : Int) + 1, (j : Int) + 1) = (!decide ((k : Int) + 1 = (j : Int) + 1) && d1_ ab_.Job bB_ ((k : Int) + 1) ((j : Int) + 1) xs) := rfl
 by_cases hkj : (k : Int) + 1 = (j : Int) + 1
 ·have hkj' : ((k : Int) + 1 = (j : Int) + 1) = True := eq_true hkj
  rw [decide_eq_true hkj] at hQ
  simp only [Bool.not_true, Bool.false_and] at hQ
  rw [hQ] at hst
  simp only [Bool.false_eq_true, if_false] at hst
  rw [← hst] at t3 o0
  simp (disch := (first | omega | (simp only [ls_, la_, lc_, ln_]; first | done | omega))) only [go_sem, reduceEqDiff, ↓reduceIte, t4, t5, e2, hkj', aq_]
  exact ⟨4 - (j + 1), by omega, hJ2 _ _ _ ⟨j + 1, by simp [upd, t0], by simp [upd, t3], by simp [upd, t4], by simp [upd], mo, o0, rfl, by omega⟩⟩
 have hkj' : ((k : Int) + 1 = (j : Int) + 1) = False := eq_false hkj
 rw [decide_eq_false hkj] at hQ
 simp only [Bool.not_false, Bool.true_and] at hQ
 simp (disch := (first | omega | (simp only [ls_, la_, lc_, ln_]; first | done | omega))) only [go_sem, reduceEqDiff, reduceCtorEq, ↓reduceIte, t0, t4, t5, e2, hkj']
 refine aa_.call (jU_ xs _ _ hs h60 hn _) ?_
 cases hE : d1_ ab_.Job bB_ ((k : Int) + 1) ((j : Int) + 1) xs
 ·rw [hQ, hE] at hst
  simp only [Bool.false_eq_true, if_false] at hst
  rw [← hst] at t3 o0
  simp (disch := (first | omega | (simp only [ls_, la_, lc_, ln_]; first | done | omega))) only [go_sem, reduceEqDiff, ↓reduceIte, t5, aq_]
  exact ⟨4 - (j + 1), by omega, hJ2 _ _ _ ⟨j + 1, by simp [upd, t0], by simp [upd, t3], by simp [upd, t4], by simp [upd], mo, o0, rfl, by omega⟩⟩
 ·rw [hQ, hE, if_pos rfl] at hst
  simp (disch := (first | omega | (simp only [ls_, la_, lc_, ln_]; first | done | omega))) only [dt_, dv_, go_sem, reduceEqDiff, Nat.reduceAdd, reduceLeDiff, ↓reduceIte, t3, t4, t5, o0, fh_, Option.map_some, AV.cell, all_cons, all_nil, bd_, iM_, hf_, aq_]
  repeat (refine And.intro (by first | omega | exact fT_ _ | exact iG_ _ | (simp; done)) ?_)
  refine ⟨4 - (j + 1), by omega, hJ2 _ _ _ ⟨j + 1, by simp [upd, t0], by simp [upd, hst], by simp [upd, t4], by simp [upd], ?_, ?_, rfl, by omega⟩⟩
  ·exact (mo.add _).set (Nat.le_refl _)
  ·rw [jc_ (by simp; omega), hst]
theorem ie_ (xs : List ab_) (hs : aG_ ab_.sz xs ≤ 1048576) : bj_ Tryz.prog 6 [.list 0 6 (xs.map ab_.cells)] (f2_ (bu_ xs)) (fun a => ∃ b q, a = .tup [b, .val (.int .i64 q)]) := by
 refine gd_ mixed Tryz.func6 wj_ rfl (fun h0 => ?_)
 simp (disch := (first | omega | (simp only [ls_, la_, lc_, ln_]; first | done | omega))) only [go_sem, reduceCtorEq, ↓reduceIte, lf6, c6]
 refine aa_.call (iZ_ xs hs _) ?_
 cases q : bZ_ xs
 ·simp (disch := (first | omega | (simp only [ls_, la_, lc_, ln_]; first | done | omega))) only [go_sem, reduceEqDiff, ↓reduceIte]
  rw [iH_ q]
  exact ⟨⟨bA_.app _ _, aB_.pair (show aB_ h0.length _ _ (.own h0.length 0) (.list 0 2 []) from ⟨2, [h0.length], ⟨(⟨.ty 53, 2, []⟩ : Row), [], [], dv_ rfl, rfl, ⟨rfl, rfl⟩, rfl, rfl⟩, by simp, by simp⟩) (by simp) _⟩, _, _, rfl⟩
 have hd := gQ_ q
 simp (disch := (first | omega | (simp only [ls_, la_, lc_, ln_]; first | done | omega))) only [go_sem, reduceCtorEq, ↓reduceIte]
 refine gS_ (hP_ xs hs hd.2.1 hd.2.2) (fun av H1 m1 F1 _ => ?_)
 simp (disch := (first | omega | (simp only [ls_, la_, lc_, ln_]; first | done | omega))) only [go_sem, reduceEqDiff, ↓reduceIte]
 rw [iq_ q]
 exact ⟨⟨m1, aB_.pair F1.tree m1.len _⟩, _, _, rfl⟩
theorem gi_ (xs : List ab_) (hs : aG_ ab_.sz xs ≤ 1048576) (h : List Row) : aa_ Tryz.prog 6 [.list 0 6 (xs.map ab_.cells)] h (f2_ (bu_ xs)) := (ie_ xs hs).pure rfl h
end Go.Proofs.YtddmifalinefnaaGreatDoor
