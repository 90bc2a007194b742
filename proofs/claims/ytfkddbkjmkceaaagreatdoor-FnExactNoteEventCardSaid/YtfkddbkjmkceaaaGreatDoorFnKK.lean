/-
 Contracts of functions of this program, over abstract values. Conditions: as each theorem says.
-/
import Derived.Test.YtfkddbkjmkceaaaGreatDoorFnKA
import Derived.Test.YtfkddbkjmkceaaaGreatDoorAwBits
import Derived.Test.YtfkddbkjmkceaaaGreatDoorPlKey
import Derived.Test.YtfkddbkjmkceaaaGreatDoorAwC
namespace Go.Proofs.YtfkddbkjmkceaaaGreatDoor
open List
open Go.AW
set_option linter.unusedVariables false
set_option linter.unusedSimpArgs false
set_option maxRecDepth 4000
abbrev mj_ (b : Nat) : AV := .val (.pointer (some ⟨b, 0, none⟩))
theorem mR_ {b : Nat} {l : List UInt8} {c : UInt8} {K : AV → Bd → Prop} (hlen : l.length + 1 ≤ 140737488355328) (hk : K (.val .nilIface) (some (b, l ++ [c]))) : gK_ Tryz.prog 154 5 183 [mj_ b, .val (.int .u8 c.toNat)] (some (b, l)) K :=
 kM_ (vals := [.int .u8 c.toNat]) (r := .nilIface) (new := [c]) (fun B w h hB => (Any.Builder_WriteByte_k Tryz.lays167 Tryz.Builder_Extra_167 B b (Lib.byteCells l) c.toNat w h (by rw [Lib.byteCells_length]; exact hlen) hB).mono (by
  rintro en w' ⟨rfl, h1, h2, _⟩
  refine ⟨rfl, .inr ?_, h2⟩
  have e : Lib.byteCells (l ++ [c]) = Lib.byteCells l ++ [.int .u8 c.toNat] := by simp [Lib.byteCells]
  rw [e]; exact h1)) hk
theorem BN_ {b : Nat} {l s : List UInt8} {K : AV → Bd → Prop} (hlen : l.length + s.length ≤ 140737488355328) (hk : ∀ r : Value, K (.val r) (some (b, l ++ s))) : gK_ Tryz.prog 154 5 190 [mj_ b, .val (.string (txt s))] (some (b, l)) K :=
 kM_ (vals := [.string (txt s)]) (r := .tuple #[.int .i64 (txt s).size, .nilIface]) (new := s) (fun B w h hB => (Any.Builder_WriteString_k Tryz.lays166 Tryz.Builder_Extra_166 B b (Lib.byteCells l) (txt s) w h (by rw [Lib.byteCells_length, b4_]; exact hlen) hB).mono (by
  rintro en w' ⟨rfl, h1, h2, _⟩
  refine ⟨rfl, .inr ?_, h2⟩
  have e : Lib.byteCells (l ++ s) = Lib.byteCells l ++ Lib.strCells (txt s) := by simp [Lib.byteCells, Lib.strCells, txt]
  rw [e]; exact h1)) (hk _)
theorem xr_ {b : Nat} {l : List UInt8} {K : AV → Bd → Prop} (hk : K (.val (.string (txt l))) (some (b, l))) : gK_ Tryz.prog 154 5 171 [mj_ b] (some (b, l)) K := by
 refine kM_ (vals := []) (r := .string (txt l)) (new := []) (fun B w h hB => (Any.Builder_String_any_k Tryz.lays169 Tryz.Builder_Extra_169 B b l w h hB).mono (by
  rintro en w' ⟨rfl, h1, h2, _⟩
  refine ⟨rfl, ?_, h2⟩
  rw [append_nil]; exact h1)) (by rw [append_nil]; exact hk)
theorem jA_ (s : List UInt8) (hs : s.length ≤ 1048576) (h : List Row) : aa_ Tryz.prog 191 [.val (.string (txt s)), .val (.string (txt [0])), .val (.string (txt [0, 255]))] h (.val (.string (txt (esc s)))) := by
 refine qO_ (vals := [.string (txt s), .string (txt [0]), .string (txt [0, 255])]) (fun w hM => ?_) h
 obtain ⟨m, hm⟩ := hM (Tryz.lays155_ren.g 1) (by kernel_rfl)
 have hc : Lib.countB (txt s) (txt [0]) ≤ s.length := by
  show Lib.count (txt s).data.toList (txt [0]).data.toList ≤ _
  rw [ce_, ce_, Lib.count_one]; exact count_le_length
 have := Any.strings_ReplaceAll Tryz.lays155 Tryz.Builder_Extra_155 (txt s) (txt [0]) (txt [0, 255]) m w (by rw [b4_]; omega) hm (by rw [b4_]; decide) (by rw [b4_, b4_]; simp only [lc_, ln_]; omega)
 rw [ce_, ce_, ce_, nI_] at this
 exact this
theorem x7_ (n k : Nat) (h : k < (be8 n).length) : (be8 n)[k] = dr_ n (7 - k) := by
 rw [d8_] at h
 rcases (by omega : k = 0 ∨ k = 1 ∨ k = 2 ∨ k = 3 ∨ k = 4 ∨ k = 5 ∨ k = 6 ∨ k = 7) with e | e | e | e | e | e | e | e <;> subst e <;> rfl
theorem qh_ (n k : Nat) (h : k < 8) : (be8 n).take (k + 1) = (be8 n).take k ++ [dr_ n (7 - k)] := by
 rw [take_succ_eq_append_getElem (by rw [d8_]; exact h), x7_]
theorem rx_ (n k : Nat) (h : k = 8) : (be8 n).take k = be8 n := by subst h; rfl
theorem zp_ (n k : Nat) (h : k < 8) : IntKind.u8.wrap ((n : Int).fdiv (2 ^ min (56 - 8 * (k : Int)).toNat 64)) = ((dr_ n (7 - k)).toNat : Int) := by
 have e : (56 - 8 * (k : Int)).toNat = (8 * ((7 - k : Nat) : Int)).toNat := by omega
 rw [e, pZ_ _ _ (by omega), mN_]
def Bl_ : LC :=
 .q [.q [.o [.m 6 1, .c1 7 179 6], .k 7 (.q [.o [.m 8 1, .c1 9 181 8, .bk 10 .add false 9 1000000000000000000, .s 11 (.convInt .u64 (.tmp 10)), .m 4 11], .o [.m 12 0, .s 13 (.call 183 [.tmp 12, .const (.int .u8 1)])], .q
 [.o [.ki 5 56], .block 0 (.loop (.q [.q [.o [.m 14 5, .bk 15 .geq false 14 0], .k 15 .skip (.exit 0)], .block 1 (.o [.m 18 0, .m 19 4, .m 20 5, .bb 21 .shr false 19 20, .s 22 (.convInt .u8 (.tmp 21)), .c2 23 183 18 22]),
 .o [.m 16 5, .bk 17 .sub false 16 8, .m 5 17]]))], .ret]) .skip], .o [.m 24 0, .s 25 (.call 183 [.tmp 24, .const (.int .u8 2)])], .o [.m 26 0, .m 27 1, .s 28 (.call 191 [.tmp 27, .const (.string ⟨#[0]⟩), .const (.string
 ⟨#[0, 255]⟩)]), .c2 29 190 26 28], .o [.m 30 0, .s 31 (.call 190 [.tmp 30, .const (.string ⟨#[0, 0]⟩)])]]
def wn_ : LF := ⟨2, 32, Bl_, []⟩
theorem BU_ : au_ Tryz.prog Tryz.f170 wn_ := ah_
theorem o2_ {b : Nat} {l : List UInt8} {s : ByteArray} (hs : s.size ≤ 1048576) (hl : l.length ≤ 1000000000) {K : AV → Bd → Prop} (hk : K (.tup []) (some (b, l ++ cx_ (bs s)))) : gK_ Tryz.prog 154 5 170 [mj_ b, .val (.string s)] (some (b, l)) K := by
 refine l1_ (by decide) mixed Tryz.func170 BU_ rfl ?_
 simp (disch := omega) only [wn_, Bl_, go_sem, ↓reduceIte]
 refine aa_.b rfl (dW_ s hs _) ?_
 have hbl : (bs s).length = s.size := fe_ s
 by_cases q : b8_ (bs s) = true
 ·simp (disch := omega) only [q, go_sem, Nat.reduceEqDiff, ↓reduceIte]
  refine aa_.b rfl (eD_ s hs _) ?_
  have hn := eI_ (bs s)
  have hq := iG_ (bs s)
  have hq2 := iy_ (bs s)
  have hkey : cx_ (bs s) = 1 :: be8 (dh_ (bs s)) := by unfold cx_; rw [if_pos q]
  rw [hkey] at hk
  simp (disch := omega) only [go_sem, reduceCtorEq, ↓reduceIte, as_, ← hq, pP_]
  refine mR_ (c := 1) (by omega) ?_
  simp (disch := omega) only [go_sem]
  refine lZ_ (fun n t σ => ∃ k : Nat, t 0 = mj_ b ∧ t 4 = .val (.int .u64 (dh_ (bs s))) ∧ t 5 = .val (.int .i64 (56 - 8 * k)) ∧ σ = some (b, (l ++ [1]) ++ (be8 (dh_ (bs s))).take k) ∧ n = 8 - k ∧ k ≤ 8) 8 ?_ ?_
  ·exact ⟨0, rfl, rfl, rfl, by simp, rfl, by omega⟩
  ·rintro J hJ n t σ ⟨k, t0, t4, t5, rfl, rfl, hk8⟩
   by_cases h8 : k < 8
   ·have hlt : (0 : Int) ≤ 56 - 8 * k := by omega
    have hlen : ((be8 (dh_ (bs s))).take k).length ≤ 8 := by rw [length_take, d8_]; omega
    simp (disch := omega) only [t0, t4, t5, hlt, no_, zp_, go_sem, Nat.reduceEqDiff, reduceCtorEq, ↓reduceIte]
    refine mR_ (by simp only [la_, lc_]; omega) ?_
    simp (disch := omega) only [t5, as_, go_sem, Nat.reduceEqDiff, ↓reduceIte]
    exact ⟨8 - (k + 1), by omega, hJ _ _ _ ⟨k + 1, by simp [upd, t0], by simp [upd, t4], by simp [upd]; omega, by rw [qh_ _ _ h8]; simp, rfl, by omega⟩⟩
   ·have hlt : ¬ (0 : Int) ≤ 56 - 8 * k := by omega
    simp (disch := omega) only [t5, hlt, go_sem, ↓reduceIte]
    rw [rx_ _ _ (by omega)]
    simpa using hk
 ·have q' : b8_ (bs s) = false := by simpa using q
  have hkey : cx_ (bs s) = 2 :: (esc (bs s) ++ [0, 0]) := by unfold cx_; rw [if_neg q]
  have he := j4_ (bs s)
  rw [hkey] at hk
  simp (disch := omega) only [q', go_sem, reduceCtorEq, ↓reduceIte]
  refine mR_ (c := 2) (by omega) ?_
  simp (disch := omega) only [go_sem, Nat.reduceEqDiff, reduceCtorEq, ↓reduceIte]
  refine aa_.b rfl (by
   have := jA_ (bs s) (by omega) []
   rw [eq_] at this
   exact this) ?_
  simp (disch := omega) only [go_sem, Nat.reduceEqDiff, ↓reduceIte]
  refine BN_ (by simp only [la_, lc_, ln_]; omega) (fun r1 => ?_)
  simp (disch := omega) only [go_sem, reduceCtorEq, ↓reduceIte]
  refine BN_ (by simp only [la_, lc_, ln_]; omega) (fun r2 => ?_)
  simp (disch := omega) only [go_sem]
  simpa using hk
def i2_ (xs : List ByteArray) : List UInt8 := if bq_ xs = true then cM_ (bss xs) else []
theorem pF_ (xs ys : List (List UInt8)) : cM_ (xs ++ ys) = cM_ xs ++ cM_ ys := by simp [cM_]
theorem eL_ {xs : List ByteArray} (h : bq_ xs = true) : xs.length ≤ 4 ∧ ∀ x ∈ xs, 1 ≤ x.size ∧ x.size ≤ 24 := by
 simp only [bq_, Bool.and_eq_true, decide_eq_true_eq, all_eq_true, bU_] at h
 exact ⟨by omega, fun x hx => by have := h.2 x hx; omega⟩
theorem j9_ : ∀ (xs : List ByteArray), (∀ x ∈ xs, x.size ≤ 24) → (cM_ (bss xs)).length ≤ 57 * xs.length
 | [], _ => by simp [cM_, bss]
 | x :: xs, h => by
  have h1 := hz_ (bs x)
  have h2 := j9_ xs (fun y hy => h y (mem_cons_of_mem _ hy))
  have h3 := h x mem_cons_self
  rw [fe_] at h1
  rw [bss, map_cons, kW_, la_, lc_]
  simp only [bss] at h2
  simp only [bs] at h1
  omega
def A7_ : LC :=
 .q [.o [.s 2 (.mov (.const (.string ⟨#[]⟩)))], .q [.o [.m 6 0, .c1 7 95 6, .nt 8 7], .k 8 (.q [.o [.s 2 (.mov (.const (.string ⟨#[]⟩)))], .ret]) .skip], .o [.s 3 (.alloc 154 (.agg #[.pointer none, .slice none 0 0]))], .q
 [.o [.m 9 0, .ll 10 9, .ki 11 0], .block 0 (.loop (.q [.o [.bb 12 .lss false 11 10], .k 12 .skip (.exit 0), .block 1 (.q [.o [.ia 13 1 9 11, .ln 14 13, .m 5 14], .o [.m 15 5, .c2 16 170 3 15]]), .o [.bk 17 .add false 11
 1, .m 11 17]]))], .o [.c1 18 171 3, .m 2 18], .ret]
def w9_ : LF := ⟨1, 19, A7_, [.tmp 2]⟩
theorem Cq_ : au_ Tryz.prog Tryz.f143 w9_ := ah_
theorem ix_ (xs : List ByteArray) (hx : xs.length ≤ 1048576) (h : List Row) : aa_ Tryz.prog 143 [.list 0 1 (xs.map aj_)] h (.val (.string (txt (i2_ xs)))) := by
 refine kj_ (T := 154) (e := 5) rfl rfl ?_ h
 refine l1_ (by decide) mixed Tryz.func143 Cq_ rfl ?_
 simp (disch := omega) only [w9_, A7_, go_sem, reduceCtorEq, ↓reduceIte]
 refine aa_.b rfl (cc_ xs hx _) ?_
 by_cases q : bq_ xs = true
 case neg =>
  have q' : bq_ xs = false := by simpa using q
  simp (disch := omega) only [q', go_sem, ↓reduceIte]
  rw [i2_, if_neg q]
 obtain ⟨h4, hm⟩ := eL_ q
 have hz : qk_ = .agg #[.pointer none, .slice none 0 0] := rfl
 simp (disch := omega) only [q, ← hz, go_sem, reduceCtorEq, ↓reduceIte]
 refine fun b => ?_
 refine lZ_ (fun n t σ => ∃ k : Nat, t 3 = mj_ b ∧ t 9 = .list 0 1 (xs.map aj_) ∧ t 10 = .val (.int .i64 xs.length) ∧ t 11 = .val (.int .i64 k) ∧ σ = some (b, cM_ (bss (xs.take k))) ∧ n = xs.length - k ∧ k ≤ xs.length) xs.length ?_ ?_
 ·exact ⟨0, rfl, rfl, rfl, rfl, rfl, rfl, by omega⟩
 ·rintro J hJ n t σ ⟨k, t3, t9, t10, t11, rfl, rfl, hk⟩
  by_cases hlt : k < xs.length
  ·have hl1 := j9_ (xs.take k) (fun x hx' => (hm x (mem_of_mem_take hx')).2)
   have hl2 : (xs.take k).length ≤ 4 := by rw [length_take]; omega
   simp (disch := omega) only [t3, t9, t10, t11, hlt, go_sem, Nat.reduceEqDiff, ↓reduceIte]
   refine o2_ (by have := hm _ (getElem_mem hlt); omega) (by omega) ?_
   simp (disch := omega) only [t11, as_, go_sem, Nat.reduceEqDiff, ↓reduceIte]
   refine ⟨xs.length - (k + 1), by omega, hJ _ _ _ ⟨k + 1, by simp [upd, t3], by simp [upd, t9], by simp [upd, t10], by simp [upd], ?_, rfl, by omega⟩⟩
   rw [take_succ_eq_append_getElem hlt, bss, bss, map_append, pF_]
   simp [cM_]
  ·simp (disch := omega) only [t3, t10, t11, hlt, go_sem, Nat.reduceEqDiff, ↓reduceIte]
   rw [take_of_length_le (by omega)]
   refine xr_ ?_
   simp (disch := omega) only [go_sem, ↓reduceIte]
   rw [i2_, if_pos q]
def ku_ : Option (List UInt8 × List UInt8) → AV
 | some (t, r) => .tup [.val (.string (txt t)), .val (.string (txt r)), .val (.bool true)]
 | none => .tup [.val (.string (txt [])), .val (.string (txt [])), .val (.bool false)]
def Ah_ : LC :=
 .q [.o [.s 2 (.mov (.const (.string ⟨#[]⟩))), .s 3 (.mov (.const (.string ⟨#[]⟩))), .f 4], .o [.s 5 (.alloc 154 (.agg #[.pointer none, .slice none 0 0]))], .q [.o [.ki 6 0], .block 0 (.loop (.q [.q [.o [.m 7 6, .bk 8
 .add false 7 1, .m 9 0, .s 10 (.lenStr (.tmp 9)), .bb 11 .lss false 8 10], .k 11 .skip (.exit 0)], .block 1 (.q [.q [.o [.m 14 0, .m 15 6, .s 16 (.indexStr (.tmp 14) (.tmp 15)), .s 17 (.bin .neq false (.tmp 16) (.const
 (.int .u8 0)))], .k 17 (.q [.o [.m 18 0, .m 19 6, .s 20 (.indexStr (.tmp 18) (.tmp 19)), .c2 21 183 5 20], .exit 1]) .skip], .o [.m 22 0, .m 23 6, .bk 24 .add false 23 1, .s 25 (.indexStr (.tmp 22) (.tmp 24))], .block 2
 (.q [.o [.s 27 (.bin .eql false (.tmp 25) (.const (.int .u8 0))), .m 26 27], .k 26 (.q [.dops [.c1 28 171 5, .m 29 0, .m 30 6, .bk 31 .add false 30 2, .s 32 (.sliceStr (.tmp 29) (some (.tmp 31)) none), .m 2 28, .m 3 32,
 .t 4], .ret]) (.q [.o [.s 34 (.bin .eql false (.tmp 25) (.const (.int .u8 255))), .m 33 34], .k 33 (.q [.o [.s 35 (.call 183 [.tmp 5, .const (.int .u8 0)])], .o [.m 36 6, .bk 37 .add false 36 1, .m 6 37]]) (.q [.o [.s 2
 (.mov (.const (.string ⟨#[]⟩))), .s 3 (.mov (.const (.string ⟨#[]⟩))), .f 4], .ret])])])]), .o [.m 12 6, .bk 13 .add false 12 1, .m 6 13]]))], .o [.s 2 (.mov (.const (.string ⟨#[]⟩))), .s 3 (.mov (.const (.string
 ⟨#[]⟩))), .f 4], .ret]
def wM_ : LF := ⟨1, 38, Ah_, [.tmp 2, .tmp 3, .tmp 4]⟩
theorem Ck_ : au_ Tryz.prog Tryz.f161 wM_ := ah_
theorem ly_ (l : List UInt8) (hl : l.length ≤ 1048576) (h : List Row) : aa_ Tryz.prog 161 [.val (.string (txt l))] h (ku_ (ct_ l [])) := by
 refine kj_ (T := 154) (e := 5) (by cases ct_ l [] <;> rfl) rfl ?_ h
 refine l1_ (by decide) mixed Tryz.func161 Ck_ rfl ?_
 have hz : qk_ = .agg #[.pointer none, .slice none 0 0] := rfl
 simp (disch := omega) only [wM_, Ah_, ← hz, go_sem]
 refine fun b => ?_
 refine lZ_ (fun n t σ => ∃ (i : Nat) (acc : List UInt8), t 0 = .val (.string (txt l)) ∧ t 5 = mj_ b ∧ t 6 = .val (.int .i64 i) ∧ σ = some (b, acc) ∧ n = l.length - i ∧ i ≤ l.length ∧ acc.length ≤ i ∧ ct_ l [] = ct_ (l.drop i) acc) l.length ?_ ?_
 ·exact ⟨0, [], rfl, rfl, rfl, rfl, rfl, by omega, Nat.le_refl _, rfl⟩
 ·rintro J hJ n t σ ⟨i, acc, t0, t5, t6, rfl, rfl, hi, hac, hS⟩
  by_cases hlt : i + 1 < l.length
  ·have hlt' : (i : Int) + 1 < l.length := by omega
   have hlt0 : i < l.length := by omega
   have ei : (i : Int) + 1 = ((i + 1 : Nat) : Int) := by omega
   have ei2 : (i : Int) + 2 = ((i + 2 : Nat) : Int) := by omega
   rw [mE_ l acc i hlt] at hS
   by_cases q : l[i] = 0
   ·rw [if_pos q] at hS
    have q' : ((l[i].toNat : Int) = 0) = True := by simp [q]
    by_cases q1 : l[i + 1] = 0
    ·rw [if_pos q1] at hS
     have q1' : ((l[i + 1].toNat : Int) = 0) = True := by simp [q1]
     simp (disch := omega) only [t0, t5, t6, ei, ei2, hlt, q', q1', as_, go_sem, Nat.reduceEqDiff, reduceCtorEq, ↓reduceIte]
     refine ⟨_, xr_ ⟨rfl, rfl⟩, ?_⟩
     rw [hS, take_length]; rfl
    ·rw [if_neg q1] at hS
     have q1' : ((l[i + 1].toNat : Int) = 0) = False := by rw [eq_iff_iff, iff_false]; intro e; exact q1 (UInt8.toNat_inj.1 (by have h2 : (0 : UInt8).toNat = 0 := rfl; omega))
     by_cases q2 : l[i + 1] = 255
     ·rw [if_pos q2] at hS
      have q2' : ((l[i + 1].toNat : Int) = 255) = True := by simp [q2]
      simp (disch := omega) only [t0, t5, t6, ei, hlt, q', q1', q2', as_, go_sem, Nat.reduceEqDiff, reduceCtorEq, ↓reduceIte]
      refine mR_ (c := 0) (by omega) ?_
      simp (disch := omega) only [t6, ei, as_, go_sem, Nat.reduceEqDiff, ↓reduceIte]
      exact ⟨l.length - (i + 2), by omega, hJ _ _ _ ⟨i + 2, acc ++ [0], by simp [upd, t0], by simp [upd, t5], by simp [upd]; omega, rfl, rfl, by omega, by simp; omega, hS⟩⟩
     ·rw [if_neg q2] at hS
      have q2' : ((l[i + 1].toNat : Int) = 255) = False := by rw [eq_iff_iff, iff_false]; intro e; exact q2 (UInt8.toNat_inj.1 (by have h2 : (255 : UInt8).toNat = 255 := rfl; omega))
      simp (disch := omega) only [t0, t6, ei, hlt, q', q1', q2', as_, go_sem, Nat.reduceEqDiff, reduceCtorEq, ↓reduceIte]
      rw [hS]; rfl
   ·rw [if_neg q] at hS
    have q' : ((l[i].toNat : Int) = 0) = False := by rw [eq_iff_iff, iff_false]; intro e; exact q (UInt8.toNat_inj.1 (by have h2 : (0 : UInt8).toNat = 0 := rfl; omega))
    simp (disch := omega) only [t0, t5, t6, ei, hlt, q', as_, go_sem, Nat.reduceEqDiff, reduceCtorEq, ↓reduceIte]
    refine mR_ (c := l[i]) (by omega) ?_
    simp (disch := omega) only [t6, ei, as_, go_sem, Nat.reduceEqDiff, ↓reduceIte]
    exact ⟨l.length - (i + 1), by omega, hJ _ _ _ ⟨i + 1, acc ++ [l[i]], by simp [upd, t0], by simp [upd, t5], by simp [upd]; try omega, rfl, rfl, by omega, by simp; omega, hS⟩⟩
  ·have hlt' : ¬ (i : Int) + 1 < l.length := by omega
   simp (disch := omega) only [t0, t6, hlt', as_, go_sem, Nat.reduceEqDiff, reduceCtorEq, ↓reduceIte]
   rw [hS, oy_ l acc i (by omega)]; rfl
def nG_ (l : List UInt8) : Option (List UInt8 × List UInt8) := if l.length < 8 then none else if 2000000000000000000 < cs_ 0 (l.take 8) then none else some (gT_ ((cs_ 0 (l.take 8) : Int) - 1000000000000000000), l.drop 8)
theorem D5_ (q : Bool) (a : Int) : bl_ .shl q (.val (.int .u64 a)) (.val (.int .u64 8)) = some (.val (.int .u64 (IntKind.u64.wrap (a * 256)))) := by
 rw [rw_ _ _ _ _ _ (by decide)]; rfl
theorem op_ (l : List UInt8) (k : Nat) (h : k < l.length) : cs_ 0 (l.take (k + 1)) = cs_ 0 (l.take k) * 256 + l[k].toNat := by
 rw [take_succ_eq_append_getElem h, t8_]
theorem kX_ (l : List UInt8) (k : Nat) (h : k ≤ 7) : cs_ 0 (l.take k) < 72057594037927936 := by
 have h1 := nK_ (l.take k) 0
 have h2 : (l.take k).length ≤ 7 := by rw [length_take]; omega
 have h3 : 256 ^ (l.take k).length ≤ 256 ^ 7 := Nat.pow_le_pow_right (by decide) h2
 omega
theorem ki_ (l : List UInt8) : cs_ 0 (l.take 8) < 18446744073709551616 := by
 have h1 := nK_ (l.take 8) 0
 have h2 : (l.take 8).length ≤ 8 := by rw [length_take]; omega
 have h3 : 256 ^ (l.take 8).length ≤ 256 ^ 8 := Nat.pow_le_pow_right (by decide) h2
 omega
theorem sD_ (n : Int) : fr_ n = gT_ n := by
 unfold fr_ gT_
 by_cases h : jx_ n = true
 ·rw [if_pos h, if_pos ((hN_ n).1 h)]
 ·rw [if_neg h, if_neg (fun q => h ((hN_ n).2 q))]
def Cv_ : LC :=
 .q [.o [.s 2 (.mov (.const (.string ⟨#[]⟩))), .s 3 (.mov (.const (.string ⟨#[]⟩))), .f 4], .q [.o [.m 7 0, .s 8 (.lenStr (.tmp 7)), .bk 9 .lss false 8 8], .k 9 (.q [.o [.s 2 (.mov (.const (.string ⟨#[]⟩))), .s 3 (.mov
 (.const (.string ⟨#[]⟩))), .f 4], .ret]) .skip], .o [.s 5 (.mov (.const (.int .u64 0)))], .q [.o [.ki 10 0], .block 0 (.loop (.q [.o [.bk 11 .lss false 10 8], .k 11 .skip (.exit 0), .block 1 (.q [.o [.m 12 10, .m 6 12],
 .o [.m 13 5, .s 14 (.bin .shl false (.tmp 13) (.const (.int .u64 8))), .m 15 0, .m 16 6, .s 17 (.indexStr (.tmp 15) (.tmp 16)), .s 18 (.convInt .u64 (.tmp 17)), .bb 19 .add false 14 18, .m 5 19]]), .o [.bk 20 .add false
 10 1, .m 10 20]]))], .q [.o [.m 21 5, .s 22 (.bin .gtr false (.tmp 21) (.const (.int .u64 2000000000000000000)))], .k 22 (.q [.o [.s 2 (.mov (.const (.string ⟨#[]⟩))), .s 3 (.mov (.const (.string ⟨#[]⟩))), .f 4], .ret])
 .skip], .dops [.m 23 5, .s 24 (.convInt .i64 (.tmp 23)), .bk 25 .sub false 24 1000000000000000000, .c1 26 182 25, .m 27 0, .s 28 (.sliceStr (.tmp 27) (some (.const (.int .i64 8))) none), .m 2 26, .m 3 28, .t 4], .ret]
def wP_ : LF := ⟨1, 29, Cv_, [.tmp 2, .tmp 3, .tmp 4]⟩
theorem yE_ : au_ Tryz.prog Tryz.f160 wP_ := ah_
theorem lC_ (l : List UInt8) (hl : l.length ≤ 1048576) (h : List Row) : aa_ Tryz.prog 160 [.val (.string (txt l))] h (ku_ (nG_ l)) := by
 refine ak_ mixed Tryz.func160 yE_ rfl rfl ?_ h
 simp (disch := omega) only [wP_, Cv_, go_sem, reduceCtorEq, ↓reduceIte]
 by_cases h8 : (l.length : Int) < 8
 ·simp (disch := omega) only [h8, go_sem, Nat.reduceEqDiff, ↓reduceIte]
  rw [nG_, if_pos (by omega)]
  exact ⟨2, rfl⟩
 simp (disch := omega) only [h8, go_sem]
 refine aQ_ (fun n t h => ∃ k : Nat, t 0 = .val (.string (txt l)) ∧ t 5 = .val (.int .u64 (cs_ 0 (l.take k))) ∧ t 10 = .val (.int .i64 k) ∧ h = [] ∧ n = 8 - k ∧ k ≤ 8) 8 ?_ ?_
 ·exact ⟨0, rfl, rfl, rfl, rfl, rfl, by omega⟩
 rintro J hJ n t h ⟨k, t0, t5, t10, rfl, rfl, hk⟩
 by_cases hlt : k < 8
 ·have hkl : k < l.length := by omega
  have hkI : (k : Int) < 8 := by omega
  have hb := kX_ l k (by omega)
  have hu := mG_ l[k]
  simp (disch := omega) only [t0, t5, t10, hkI, D5_, uT_, pP_, as_, go_sem, Nat.reduceEqDiff, reduceCtorEq, ↓reduceIte]
  exact ⟨8 - (k + 1), by omega, hJ _ _ _ ⟨k + 1, by simp [upd, t0], by simp only [upd]; rw [op_ l k hkl]; simp, by simp [upd], rfl, rfl, by omega⟩⟩
 ·have hk8 : k = 8 := by omega
  have hkI : ¬ (k : Int) < 8 := by omega
  rw [hk8] at t5
  have hb := ki_ l
  by_cases hg : (2000000000000000000 : Int) < (cs_ 0 (l.take 8) : Nat)
  ·simp (disch := omega) only [t5, t10, hkI, hg, go_sem, Nat.reduceEqDiff, ↓reduceIte]
   rw [nG_, if_neg (by omega), if_pos (by omega)]
   exact ⟨2, rfl⟩
  ·simp (disch := omega) only [t0, t5, t10, hkI, hg, as_, go_sem, Nat.reduceEqDiff, reduceCtorEq, Int.reduceLE, Int.reduceToNat, ↓reduceIte]
   refine aa_.q (is_ _ _) ?_
   rw [nG_, if_neg (by omega), if_neg (by omega), sD_, take_length]
   exact ⟨2, rfl⟩
abbrev ef_ (out : List (List UInt8)) : List (List AV) := (out.map txt).map aj_
theorem qu_ (out : List (List UInt8)) : bss (out.map txt) = out := by
 rw [bss, map_map]
 conv => rhs; rw [← map_id out]
 exact map_congr_left fun x _ => ce_ x
theorem ee_ (out : List (List UInt8)) : bq_ (out.map txt) = en_ out := by
 rw [Bool.eq_iff_iff]
 simp only [bq_, en_, bU_, vV_, length_map, all_map, Bool.and_eq_true, decide_eq_true_eq, all_eq_true, Function.comp, b4_]
 constructor
 ·rintro ⟨h1, h2⟩
  exact ⟨by omega, fun x hx => by have := h2 x hx; omega⟩
 ·rintro ⟨h1, h2⟩
  exact ⟨by omega, fun x hx => by have := h2 x hx; omega⟩
theorem ge_ (l : List UInt8) (h : 0 < l.length) : dx_ l = if l[0] = 1 then nG_ (l.drop 1) else if l[0] = 2 then ct_ (l.drop 1) [] else none := by
 cases l with
 | nil => simp at h
 | cons b l => rfl
theorem i6_ : ku_ none = .tup [.val (.string (txt [])), .val (.string (txt [])), .val (.bool false)] := rfl
theorem ja_ (t r : List UInt8) : ku_ (some (t, r)) = .tup [.val (.string (txt t)), .val (.string (txt r)), .val (.bool true)] := rfl
def dz_ (s : ByteArray) : List ByteArray × Bool :=
 match fL_ dx_ (bs s) with
 | some xs => (xs.map txt, true)
 | none => ([], false)
abbrev o3_ (p : List ByteArray × Bool) : AV := .tup [.list 0 1 (p.1.map aj_), .val (.bool p.2)]
theorem ld_ {s : ByteArray} (h : cV_ dx_ 5 (bs s) [] = none) : dz_ s = ([], false) := by
 rw [dz_, fL_, h]
theorem nJ_ {s : ByteArray} {out : List (List UInt8)} {left : List UInt8} (h : cV_ dx_ 5 (bs s) [] = some (out, left)) (q : ¬ (left = [] ∧ en_ out = true ∧ cM_ out = bs s)) : dz_ s = ([], false) := by
 rw [dz_, fL_, h]; simp only; rw [if_neg q]
theorem vo_ {s : ByteArray} {out : List (List UInt8)} (h : cV_ dx_ 5 (bs s) [] = some (out, [])) (h2 : en_ out = true) (h3 : cM_ out = bs s) : dz_ s = (out.map txt, true) := by
 simp [dz_, fL_, h, h2, h3]
theorem tf_ {out : List (List UInt8)} (h : en_ out = true) : out.length ≤ 4 := by
 simp only [en_, Bool.and_eq_true, decide_eq_true_eq] at h; exact h.1
theorem oF_ (out : List (List UInt8)) : ∀ e ∈ ef_ out, e.all AV.flat = true := by
 intro e he
 obtain ⟨x, _, q⟩ := mem_map.1 he; subst q; rfl
theorem p1_ (h0 : List Row) (out : List (List UInt8)) (rest : List Row) : [AV.own h0.length out.length].mapM (AW.resolve (h0 ++ ⟨9, 1, ef_ out⟩ :: rest) 2) = some [.list 0 1 (ef_ out)] :=
 py_ (lq_ (n := 0) (r := ⟨9, 1, ef_ out⟩) (by rw [cn_]; rfl) (by simp) (oF_ out))
theorem fv_ {base l : Nat} {H : List Row} {E : Tag} {out : List ByteArray} (hl : H[l]? = some ⟨E, 1, out.map aj_⟩) (hb : base ≤ l) : aB_ base (l + 1) H (.own l out.length) (.list 0 1 (out.map aj_)) :=
 aB_.mkown (lo := l + 1) (hi := l + 1) (bv_.ofVals _ _ _ _ (by
  intro e he c hc
  obtain ⟨x, _, q⟩ := mem_map.1 he; subst q
  simp only [aj_, mem_singleton] at hc
  exact ⟨_, hc⟩)) hl (by simp) hb (Nat.lt_succ_self _) (Nat.le_refl _)
theorem c1_ {lo hi : Nat} {H : List Row} {a r : AV} (h : aB_ lo hi H a r) (hlh : lo ≤ hi) (v : Value) : dj_ lo H (.tup [a, .val v]) (.tup [r, .val v]) :=
 (aB_.tup (am_.cons h (am_.val v (am_.nil hi hi H)) ⟨hlh, Nat.le_refl _⟩)).fresh
theorem ui_ {out : List (List UInt8)} (h : en_ out = true) : i2_ (out.map txt) = cM_ out := by
 rw [i2_, ee_, if_pos h, qu_]
theorem or_ (take : List UInt8 → Option (List UInt8 × List UInt8)) (f : Nat) (l : List UInt8) (out : List (List UInt8)) (h : l ≠ []) : cV_ take (f + 1) l out = match take l with
 | none => none
 | some (t, r) => cV_ take f r (out ++ [t]) := by
 rw [cV_, if_neg h]; cases take l <;> rfl
theorem lQ_ (l : List UInt8) : (txt l = txt []) = (l = []) := rv_ l []
def AG_ : LC :=
 .q [.o [.nl 2, .f 3], .o [.s 8 (.buildSlice 9 1 (.string ⟨#[]⟩) 0 []), .m 9 0, .m 4 8, .m 5 9], .block 0 (.loop (.q [.q [.o [.m 10 5, .s 11 (.bin .neq false (.tmp 10) (.const (.string ⟨#[]⟩))), .m 12 11, .gm 13 12 true
 4, .g 14 12 true (.lenSl (.tmp 13)), .g 15 12 true (.bin .leq false (.tmp 14) (.const (.int .i64 4))), .pf 16 12 15], .k 16 .skip (.exit 0)], .block 1 (.q [.o [.s 6 (.mov (.const (.string ⟨#[]⟩)))], .o [.f 7], .q [.o [.m
 17 5, .s 18 (.indexStr (.tmp 17) (.const (.int .i64 0)))], .block 2 (.q [.o [.s 20 (.bin .eql false (.tmp 18) (.const (.int .u8 1))), .m 19 20], .k 19 (.o [.m 22 5, .s 23 (.sliceStr (.tmp 22) (some (.const (.int .i64
 1))) none), .c1 24 160 23, .m 21 24, .ex 25 21 0, .ex 26 21 1, .ex 27 21 2, .m 6 25, .m 5 26, .m 7 27]) (.q [.o [.s 29 (.bin .eql false (.tmp 18) (.const (.int .u8 2))), .m 28 29], .k 28 (.o [.m 31 5, .s 32 (.sliceStr
 (.tmp 31) (some (.const (.int .i64 1))) none), .c1 33 161 32, .m 30 33, .ex 34 30 0, .ex 35 30 1, .ex 36 30 2, .m 6 34, .m 5 35, .m 7 36]) .skip])])], .q [.o [.m 37 7, .nt 38 37], .k 38 (.q [.o [.nl 2, .f 3], .ret])
 .skip], .o [.m 39 4, .m 40 6, .s 41 (.buildSlice 9 1 (.string ⟨#[]⟩) 1 [(0, .tmp 40)]), .ap 42 9 1 16 39 41, .m 4 42]])])), .q [.o [.m 43 4, .c1 44 95 43, .nt 45 44, .m 46 45, .gm 47 46 false 4, .gc 48 46 false 143 47,
 .gm 49 46 false 0, .g 50 46 false (.bin .neq false (.tmp 48) (.tmp 49)), .pt 51 46 50], .k 51 (.q [.o [.nl 2, .f 3], .ret]) .skip], .o [.m 52 4, .m 2 52, .t 3], .ret]
def wk_ : LF := ⟨1, 53, AG_, [.tmp 2, .tmp 3]⟩
theorem AC_ : au_ Tryz.prog Tryz.f132 wk_ := ah_
theorem k2_ (s : ByteArray) (hs : s.size ≤ 1048576) : aK_ Tryz.prog 132 [.val (.string s)] (o3_ (dz_ s)) (fun a => ∃ b q, a = .tup [b, .val (.bool q)]) := by
 refine dq_ mixed Tryz.func132 AC_ rfl (fun h0 => ?_)
 have hbl := fe_ s
 simp (disch := omega) only [wk_, AG_, go_sem, Nat.reduceEqDiff, reduceCtorEq, ↓reduceIte]
 refine aQ_ (fun n t h => ∃ (out : List (List UInt8)) (left : List UInt8) (rest : List Row), t 0 = .val (.string s) ∧ t 4 = .own h0.length out.length ∧ t 5 = .val (.string (txt left)) ∧ h = h0 ++ ⟨9, 1, ef_ out⟩ :: rest ∧ n = 5 - out.length ∧ out.length ≤ 5 ∧ left.length ≤ s.size ∧ cV_ dx_ 5 (bs s) [] = cV_ dx_ (5 - out.length) left out) 5 ?_ ?_
 ·exact ⟨[], bs s, [], rfl, rfl, by rw [eq_]; rfl, rfl, rfl, by simp, Nat.le_of_eq (fe_ s), rfl⟩
 rintro J hJ n t h ⟨out, left, rest, t0, t4, t5, rfl, rfl, ho, hle, hS⟩
 have fl : (ef_ out).length = out.length := by simp
 have hA := p1_ h0 out rest
 by_cases q0 : left = []
 ·subst q0
  have hR : cV_ dx_ 5 (bs s) [] = some (out, []) := by
   rw [hS]; cases 5 - out.length with
   | zero => rw [cV_]
   | succ f => rw [cV_, if_pos rfl]
  have q0' : (txt ([] : List UInt8) = txt []) = True := by simp
  simp (disch := omega) only [t4, t5, fl, ag_, go_sem, Nat.reduceEqDiff, Nat.reduceLeDiff, Int.reduceLE, Int.reduceToNat, ↓reduceIte]
  refine aa_.call (AW.frozen (cc_ (out.map txt) (by simp; omega)) hA) ?_
  by_cases s1 : en_ out = true
  case neg =>
   have s1' : bq_ (out.map txt) = false := by rw [ee_]; simpa using s1
   simp (disch := omega) only [t4, s1', ag_, go_sem, Nat.reduceEqDiff, ↓reduceIte]
   rw [nJ_ hR (fun q => s1 q.2.1)]
   exact ⟨_, rfl, c1_ (aB_.mknil _ _ _ 1) (Nat.le_refl _) _, _, _, rfl⟩
  have s1' : bq_ (out.map txt) = true := by rw [ee_]; exact s1
  simp (disch := omega) only [t4, s1', go_sem, Nat.reduceEqDiff, ↓reduceIte]
  refine aa_.call (AW.frozen (ix_ (out.map txt) (by simp; omega)) hA) ?_
  rw [ui_ s1]
  by_cases s2 : cM_ out = bs s
  case neg =>
   have s2' : (txt (cM_ out) = s) = False := by rw [eq_iff_iff, iff_false]; intro e; exact s2 (by rw [← e]; exact (ce_ _).symm)
   simp (disch := omega) only [t0, t4, s2', ag_, go_sem, Nat.reduceEqDiff, reduceCtorEq, ↓reduceIte]
   rw [nJ_ hR (fun q => s2 q.2.2)]
   exact ⟨_, rfl, c1_ (aB_.mknil _ _ _ 1) (Nat.le_refl _) _, _, _, rfl⟩
  have s2' : (txt (cM_ out) = s) = True := by rw [s2, eq_]; simp
  simp (disch := omega) only [t0, t4, s2', ag_, go_sem, Nat.reduceEqDiff, reduceCtorEq, ↓reduceIte]
  rw [vo_ hR s1 s2]
  have hz := c1_ (fv_ (base := h0.length) (l := h0.length) (E := 9) (out := out.map txt) (H := h0 ++ ⟨9, 1, ef_ out⟩ :: rest) (by rw [cn_]; rfl) (Nat.le_refl _)) (by omega) (.bool true)
  rw [length_map] at hz
  exact ⟨_, rfl, hz, _, _, rfl⟩
 ·have hpos : 0 < left.length := by cases left with
   | nil => exact absurd rfl q0
   | cons b l => simp
  have q0' : (txt left = txt []) = False := by rw [lQ_]; simp [q0]
  by_cases q4 : out.length ≤ 4
  ·have q4' : (out.length : Int) ≤ 4 := by omega
   have e5 : 5 - out.length = (4 - out.length) + 1 := by omega
   rw [e5, or_ dx_ (4 - out.length) left out q0] at hS
   have hdl : (left.drop 1).length ≤ 1048576 := by rw [length_drop]; omega
   by_cases q1 : left[0] = 1
   ·have q1' : ((left[0].toNat : Int) = 1) = True := by simp [q1]
    simp (disch := omega) only [t4, t5, q0', q4', q1', fl, take_length, ag_, go_sem, Nat.reduceEqDiff, Nat.reduceLeDiff, Int.reduceLE, Int.reduceToNat, ↓reduceIte]
    have hc := fun h => lC_ (left.drop 1) hdl h
    cases hn : nG_ (left.drop 1) with
    | none =>
     rw [hn, i6_] at hc
     rw [ge_ left hpos, if_pos q1, hn] at hS
     refine aa_.call (hc _) ?_
     simp (disch := omega) only [t4, fl, ag_, go_sem, Nat.reduceEqDiff, Nat.reduceLeDiff, ↓reduceIte]
     rw [ld_ (by rw [hS])]
     exact ⟨_, rfl, c1_ (aB_.mknil _ _ _ 1) (Nat.le_refl _) _, _, _, rfl⟩
    | some p =>
     obtain ⟨x, r⟩ := p
     rw [hn, ja_] at hc
     have hlen := n4_ left x r (by rw [ge_ left hpos, if_pos q1, hn])
     rw [ge_ left hpos, if_pos q1, hn] at hS
     refine aa_.call (hc _) ?_
     simp (disch := omega) only [t4, fl, ag_, go_sem, Nat.reduceEqDiff, Nat.reduceLeDiff, ↓reduceIte]
     refine ⟨by omega, by omega, ?_⟩
     try simp (disch := omega) only [t0, t4, t5, q0', q4', fl, ag_, go_sem, Nat.reduceEqDiff, Nat.reduceAdd, Nat.reduceLeDiff, reduceCtorEq, Int.reduceLT, Int.reduceLE, Int.reduceNeg, Int.reduceSub, Int.reduceAdd, Int.reduceToNat, ↓reduceIte]
     exact ⟨5 - (out.length + 1), by omega, hJ _ _ _ ⟨out ++ [x], r, rest ++ [⟨9, 1, [[.val (.string (txt x))]]⟩], by simp [upd, t0], by simp [upd], by simp [upd], by simp [aj_], by simp, by simp; omega, by omega, by simpa [Nat.sub_sub] using hS⟩⟩
   ·have q1' : ((left[0].toNat : Int) = 1) = False := by rw [eq_iff_iff, iff_false]; intro e; exact q1 (UInt8.toNat_inj.1 (by have h2 : (1 : UInt8).toNat = 1 := rfl; omega))
    by_cases q2 : left[0] = 2
    ·have q2' : ((left[0].toNat : Int) = 2) = True := by simp [q2]
     simp (disch := omega) only [t4, t5, q0', q4', q1', q2', fl, take_length, ag_, go_sem, Nat.reduceEqDiff, Nat.reduceLeDiff, Int.reduceLE, Int.reduceToNat, ↓reduceIte]
     have hc := fun h => ly_ (left.drop 1) hdl h
     cases hn : ct_ (left.drop 1) [] with
     | none =>
      rw [hn, i6_] at hc
      rw [ge_ left hpos, if_neg q1, if_pos q2, hn] at hS
      refine aa_.call (hc _) ?_
      simp (disch := omega) only [t4, fl, ag_, go_sem, Nat.reduceEqDiff, Nat.reduceLeDiff, ↓reduceIte]
      rw [ld_ (by rw [hS])]
      exact ⟨_, rfl, c1_ (aB_.mknil _ _ _ 1) (Nat.le_refl _) _, _, _, rfl⟩
     | some p =>
      obtain ⟨x, r⟩ := p
      rw [hn, ja_] at hc
      have hlen := n4_ left x r (by rw [ge_ left hpos, if_neg q1, if_pos q2, hn])
      rw [ge_ left hpos, if_neg q1, if_pos q2, hn] at hS
      refine aa_.call (hc _) ?_
      simp (disch := omega) only [t4, fl, ag_, go_sem, Nat.reduceEqDiff, Nat.reduceLeDiff, ↓reduceIte]
      refine ⟨by omega, by omega, ?_⟩
      try simp (disch := omega) only [t0, t4, t5, q0', q4', fl, ag_, go_sem, Nat.reduceEqDiff, Nat.reduceAdd, Nat.reduceLeDiff, reduceCtorEq, Int.reduceLT, Int.reduceLE, Int.reduceNeg, Int.reduceSub, Int.reduceAdd, Int.reduceToNat, ↓reduceIte]
      exact ⟨5 - (out.length + 1), by omega, hJ _ _ _ ⟨out ++ [x], r, rest ++ [⟨9, 1, [[.val (.string (txt x))]]⟩], by simp [upd, t0], by simp [upd], by simp [upd], by simp [aj_], by simp, by simp; omega, by omega, by simpa [Nat.sub_sub] using hS⟩⟩
    ·have q2' : ((left[0].toNat : Int) = 2) = False := by rw [eq_iff_iff, iff_false]; intro e; exact q2 (UInt8.toNat_inj.1 (by have h2 : (2 : UInt8).toNat = 2 := rfl; omega))
     rw [ge_ left hpos, if_neg q1, if_neg q2] at hS
     simp (disch := omega) only [t4, t5, q0', q4', q1', q2', fl, take_length, ag_, go_sem, Nat.reduceEqDiff, Nat.reduceLeDiff, Int.reduceLE, Int.reduceToNat, ↓reduceIte]
     rw [ld_ (by rw [hS])]
     exact ⟨_, rfl, c1_ (aB_.mknil _ _ _ 1) (Nat.le_refl _) _, _, _, rfl⟩
  ·have q4' : ¬ (out.length : Int) ≤ 4 := by omega
   have e0 : 5 - out.length = 0 := by omega
   have hR : cV_ dx_ 5 (bs s) [] = some (out, left) := by rw [hS, e0, cV_]
   have s1 : ¬ en_ out = true := fun q => q4 (tf_ q)
   simp (disch := omega) only [t4, t5, q0', q4', fl, ag_, go_sem, Nat.reduceEqDiff, Nat.reduceLeDiff, Int.reduceLE, Int.reduceToNat, ↓reduceIte]
   refine aa_.call (AW.frozen (cc_ (out.map txt) (by simp; omega)) hA) ?_
   have s1' : bq_ (out.map txt) = false := by rw [ee_]; simpa using s1
   simp (disch := omega) only [t4, s1', ag_, go_sem, Nat.reduceEqDiff, ↓reduceIte]
   rw [nJ_ hR (fun q => s1 q.2.1)]
   exact ⟨_, rfl, c1_ (aB_.mknil _ _ _ 1) (Nat.le_refl _) _, _, _, rfl⟩
theorem iU_ (s : ByteArray) (hs : s.size ≤ 1048576) (h : List Row) : aa_ Tryz.prog 132 [.val (.string s)] h (o3_ (dz_ s)) := (k2_ s hs).pure rfl h
theorem C6_ (q : Bool) (a : Int) : bl_ .shl q (.val (.int .i64 a)) (.val (.int .u64 8)) = some (.val (.int .i64 (IntKind.i64.wrap (a * 256)))) := by
 rw [rw_ _ _ _ _ _ (by decide)]; rfl
theorem or8 (q : Bool) (x b : Nat) (h : b < 256) (hx : x < 72057594037927936) : bl_ .or q (.val (.int .i64 (IntKind.i64.wrap ((IntKind.i64.wrap (x : Int)) * 256)))) (.val (.int .i64 (b : Int))) = some (.val (.int .i64 (IntKind.i64.wrap ((x * 256 + b : Nat) : Int)))) := by
 have h8 : (2 : Int) ^ (min (8 : Int).toNat 64) = 256 := by decide
 have := yu_ x b h (by omega)
 rw [h8] at this
 rw [xU_, this, Nat.mod_eq_of_lt (by omega)]
theorem D7_ (q : Bool) (x b : Nat) (h : b < 256) (hx : x < 72057594037927936) : bl_ .or q (.val (.int .i64 (IntKind.i64.wrap ((x : Int) * 256)))) (.val (.int .i64 (b : Int))) = some (.val (.int .i64 (IntKind.i64.wrap ((x * 256 + b : Nat) : Int)))) := by
 have := or8 q x b h hx
 rwa [as_ (n := (x : Int)) (by omega) (by omega)] at this
def zi_ : LC :=
 .q [.o [.ki 2 0], .o [.ki 3 0], .q [.o [.ki 4 0], .block 0 (.loop (.q [.q [.o [.m 5 4, .bk 6 .lss false 5 8], .k 6 .skip (.exit 0)], .block 1 (.o [.m 9 3, .s 10 (.bin .shl false (.tmp 9) (.const (.int .u64 8))), .m 11 0,
 .m 12 4, .s 13 (.indexStr (.tmp 11) (.tmp 12)), .s 14 (.convInt .i64 (.tmp 13)), .bb 15 .or false 10 14, .m 3 15]), .o [.m 7 4, .bk 8 .add false 7 1, .m 4 8]]))], .o [.m 16 3, .m 2 16], .ret]
def xd_ : LF := ⟨1, 17, zi_, [.tmp 2]⟩
theorem Ct_ : au_ Tryz.prog Tryz.f146 xd_ := ah_
theorem ny_ (l : List UInt8) (hl : l.length = 8) (h : List Row) : aa_ Tryz.prog 146 [.val (.string (txt l))] h (.val (.int .i64 (IntKind.i64.wrap (cs_ 0 l)))) := by
 refine ak_ mixed Tryz.func146 Ct_ rfl rfl ?_ h
 simp (disch := omega) only [xd_, zi_, go_sem]
 refine aQ_ (fun n t h => ∃ k : Nat, t 0 = .val (.string (txt l)) ∧ t 3 = .val (.int .i64 (IntKind.i64.wrap (cs_ 0 (l.take k)))) ∧ t 4 = .val (.int .i64 k) ∧ h = [] ∧ n = 8 - k ∧ k ≤ 8) 8 ?_ ?_
 ·exact ⟨0, rfl, by rw [take_zero, po_]; rfl, rfl, rfl, rfl, by omega⟩
 rintro J hJ n t h ⟨k, t0, t3, t4, rfl, rfl, hk⟩
 by_cases hlt : k < 8
 ·have hkl : k < l.length := by omega
  have hkI : (k : Int) < 8 := by omega
  have hb := kX_ l k (by omega)
  have hu := mG_ l[k]
  simp (disch := omega) only [t0, t3, t4, hkI, C6_, D7_, as_, go_sem, Nat.reduceEqDiff, reduceCtorEq, ↓reduceIte]
  exact ⟨8 - (k + 1), by omega, hJ _ _ _ ⟨k + 1, by simp [upd, t0], by rw [op_ l k hkl]; simp [upd], by simp [upd], rfl, rfl, by omega⟩⟩
 ·have hkI : ¬ (k : Int) < 8 := by omega
  simp (disch := omega) only [t3, t4, hkI, go_sem, Nat.reduceEqDiff, ↓reduceIte]
  rw [take_of_length_le (by omega)]
  exact ⟨1, rfl⟩
theorem vb_ (l : List UInt8) (h : 0 < l.length) : dy_ l = if l[0] = 1 ∧ 9 ≤ l.length then (if 1 ≤ cs_ 0 ((l.drop 1).take 8) ∧ cs_ 0 ((l.drop 1).take 8) ≤ 1999999999999999999 then some (b6_ ((cs_ 0 ((l.drop 1).take 8) : Int) - 1000000000000000000), (l.drop 1).drop 8) else none) else if l[0] = 2 then ct_ (l.drop 1) [] else none := by
 cases l with
 | nil => simp at h
 | cons b l =>
  have e : (9 ≤ (b :: l).length) = (8 ≤ l.length) := by simp
  rw [dy_]
  simp only [e, getElem_cons_zero, drop_succ_cons, drop_zero]
theorem qF_ (N : Nat) (h : N < 18446744073709551616) : dP_ (IntKind.i64.wrap (N : Int)) 1 1999999999999999999 = decide (1 ≤ N ∧ N ≤ 1999999999999999999) := by
 rw [dP_, IntKind.wrap_i64, Bool.eq_iff_iff]
 simp only [Bool.and_eq_true, decide_eq_true_eq]
 omega
def Be_ : LC :=
 .q [.o [.s 2 (.mov (.const (.string ⟨#[]⟩))), .s 3 (.mov (.const (.string ⟨#[]⟩))), .f 4], .q [.o [.m 8 0, .s 9 (.indexStr (.tmp 8) (.const (.int .i64 0))), .s 10 (.bin .eql false (.tmp 9) (.const (.int .u8 1))), .m 11
 10, .gm 12 11 true 0, .g 13 11 true (.lenStr (.tmp 12)), .g 14 11 true (.bin .geq false (.tmp 13) (.const (.int .i64 9))), .pf 15 11 14], .k 15 (.q [.o [.m 16 0, .s 17 (.sliceStr (.tmp 16) (some (.const (.int .i64 1)))
 (some (.const (.int .i64 9)))), .c1 18 146 17, .m 5 18], .q [.o [.m 19 5, .s 20 (.call 70 [.tmp 19, .const (.int .i64 1), .const (.int .i64 1999999999999999999)]), .nt 21 20], .k 21 (.q [.o [.s 2 (.mov (.const (.string
 ⟨#[]⟩))), .s 3 (.mov (.const (.string ⟨#[]⟩))), .f 4], .ret]) .skip], .dops [.m 22 5, .bk 23 .sub false 22 1000000000000000000, .c1 24 147 23, .m 25 0, .s 26 (.sliceStr (.tmp 25) (some (.const (.int .i64 9))) none), .m 2
 24, .m 3 26, .t 4], .ret]) .skip], .q [.o [.m 27 0, .s 28 (.indexStr (.tmp 27) (.const (.int .i64 0))), .s 29 (.bin .neq false (.tmp 28) (.const (.int .u8 2)))], .k 29 (.q [.o [.s 2 (.mov (.const (.string ⟨#[]⟩))), .s 3
 (.mov (.const (.string ⟨#[]⟩))), .f 4], .ret]) .skip], .o [.s 30 (.buildSlice 5 1 (.int .u8 0) 0 []), .m 6 30], .q [.o [.ki 7 1], .block 0 (.loop (.q [.q [.o [.m 31 7, .bk 32 .add false 31 1, .m 33 0, .s 34 (.lenStr
 (.tmp 33)), .bb 35 .lss false 32 34], .k 35 .skip (.exit 0)], .block 1 (.q [.q [.o [.m 38 0, .m 39 7, .s 40 (.indexStr (.tmp 38) (.tmp 39)), .s 41 (.bin .neq false (.tmp 40) (.const (.int .u8 0)))], .k 41 (.q [.o [.m 42
 6, .m 43 0, .m 44 7, .s 45 (.indexStr (.tmp 43) (.tmp 44)), .s 46 (.buildSlice 5 1 (.int .u8 0) 1 [(0, .tmp 45)]), .ap 47 5 1 1 42 46, .m 6 47], .exit 1]) .skip], .q [.o [.m 48 0, .m 49 7, .bk 50 .add false 49 1, .s 51
 (.indexStr (.tmp 48) (.tmp 50)), .s 52 (.bin .eql false (.tmp 51) (.const (.int .u8 0)))], .k 52 (.q [.dops [.m 53 6, .s 54 (.toStr (.tmp 53)), .m 55 0, .m 56 7, .bk 57 .add false 56 2, .s 58 (.sliceStr (.tmp 55) (some
 (.tmp 57)) none), .m 2 54, .m 3 58, .t 4], .ret]) .skip], .q [.o [.m 59 0, .m 60 7, .bk 61 .add false 60 1, .s 62 (.indexStr (.tmp 59) (.tmp 61)), .s 63 (.bin .neq false (.tmp 62) (.const (.int .u8 255)))], .k 63 (.q [.o
 [.s 2 (.mov (.const (.string ⟨#[]⟩))), .s 3 (.mov (.const (.string ⟨#[]⟩))), .f 4], .ret]) .skip], .o [.m 64 6, .s 65 (.buildSlice 5 1 (.int .u8 0) 1 [(0, .const (.int .u8 0))]), .ap 66 5 1 1 64 65, .m 6 66], .o [.m 67
 7, .bk 68 .add false 67 1, .m 7 68]]), .o [.m 36 7, .bk 37 .add false 36 1, .m 7 37]]))], .o [.s 2 (.mov (.const (.string ⟨#[]⟩))), .s 3 (.mov (.const (.string ⟨#[]⟩))), .f 4], .ret]
def xA_ : LF := ⟨1, 69, Be_, [.tmp 2, .tmp 3, .tmp 4]⟩
theorem BL_ : au_ Tryz.prog Tryz.f109 xA_ := ah_
theorem mV_ (l : List UInt8) (hp : 0 < l.length) (hl : l.length ≤ 1048576) (h : List Row) : aa_ Tryz.prog 109 [.val (.string (txt l))] h (ku_ (dy_ l)) := by
 refine ak_ mixed Tryz.func109 BL_ rfl rfl ?_ h
 rw [vb_ l hp]
 simp (disch := omega) only [xA_, Be_, go_sem, reduceCtorEq, Int.reduceLE, ↓reduceIte]
 by_cases q1 : l[0] = 1
 ·have q1' : ((l[0].toNat : Int) = 1) = True := by simp [q1]
  have q12 : ((l[0].toNat : Int) = 2) = False := by simp [q1]
  have q2n : ¬ l[0] = 2 := by rw [q1]; decide
  by_cases q9 : 9 ≤ l.length
  ·have q9' : (9 : Int) ≤ l.length := by omega
   have e9 : List.drop 1 (List.take 9 l) = (l.drop 1).take 8 := by rw [drop_take]
   have e10 : List.drop 9 l = (l.drop 1).drop 8 := by rw [drop_drop]
   have hN := ki_ (l.drop 1)
   rw [if_pos ⟨q1, q9⟩]
   simp (disch := omega) only [q1', q9', e9, ag_, go_sem, Nat.reduceEqDiff, Nat.reduceLeDiff, reduceCtorEq, Int.reduceLE, Int.reduceToNat, ↓reduceIte]
   refine aa_.call (ny_ _ (by simp; omega) _) ?_
   simp (disch := omega) only [go_sem, ↓reduceIte]
   refine aa_.call (hA_ _ _ _ _) ?_
   rw [qF_ _ hN]
   by_cases qr : 1 ≤ cs_ 0 ((l.drop 1).take 8) ∧ cs_ 0 ((l.drop 1).take 8) ≤ 1999999999999999999
   ·rw [if_pos qr]
    have qr' : decide (1 ≤ cs_ 0 ((l.drop 1).take 8) ∧ cs_ 0 ((l.drop 1).take 8) ≤ 1999999999999999999) = true := by simpa using qr
    simp (disch := omega) only [qr', as_, take_length, e10, ag_, go_sem, Nat.reduceEqDiff, reduceCtorEq, Int.reduceLE, Int.reduceToNat, ↓reduceIte]
    refine aa_.q (iF_ _ (by omega) (by omega) _) ?_
    exact ⟨2, rfl⟩
   ·rw [if_neg qr]
    have qr' : decide (1 ≤ cs_ 0 ((l.drop 1).take 8) ∧ cs_ 0 ((l.drop 1).take 8) ≤ 1999999999999999999) = false := by simpa using qr
    simp (disch := omega) only [qr', ag_, go_sem, Nat.reduceEqDiff, reduceCtorEq, Int.reduceLE, Int.reduceToNat, ↓reduceIte]
    exact ⟨2, rfl⟩
  ·have q9' : ¬ (9 : Int) ≤ l.length := by omega
   rw [if_neg (fun z => q9 z.2), if_neg q2n]
   simp (disch := omega) only [q1', q9', q12, ag_, go_sem, Nat.reduceEqDiff, Nat.reduceLeDiff, reduceCtorEq, Int.reduceLE, Int.reduceToNat, ↓reduceIte]
   exact ⟨2, rfl⟩
 ·have q1' : ((l[0].toNat : Int) = 1) = False := by rw [eq_iff_iff, iff_false]; intro e; exact q1 (UInt8.toNat_inj.1 (by have h2 : (1 : UInt8).toNat = 1 := rfl; omega))
  rw [if_neg (fun z => q1 z.1)]
  by_cases q2 : l[0] = 2
  case neg =>
   have q2' : ((l[0].toNat : Int) = 2) = False := by rw [eq_iff_iff, iff_false]; intro e; exact q2 (UInt8.toNat_inj.1 (by have h2 : (2 : UInt8).toNat = 2 := rfl; omega))
   rw [if_neg q2]
   simp (disch := omega) only [q1', q2', ag_, go_sem, Nat.reduceEqDiff, Nat.reduceLeDiff, reduceCtorEq, Int.reduceLE, Int.reduceToNat, ↓reduceIte]
   exact ⟨2, rfl⟩
  have q2' : ((l[0].toNat : Int) = 2) = True := by simp [q2]
  rw [if_pos q2]
  simp (disch := omega) only [q1', q2', ag_, go_sem, Nat.reduceEqDiff, Nat.reduceLeDiff, reduceCtorEq, Int.reduceLE, Int.reduceToNat, ↓reduceIte]
  refine aQ_ (fun n t h => ∃ (i : Nat) (acc : List UInt8) (rest : List Row), t 0 = .val (.string (txt l)) ∧ t 6 = .own 0 acc.length ∧ t 7 = .val (.int .i64 i) ∧ h = ⟨5, 1, by_ acc⟩ :: rest ∧ n = l.length + 1 - i ∧ i ≤ l.length ∧ acc.length ≤ i ∧ ct_ (l.drop 1) [] = ct_ (l.drop i) acc) l.length ?_ ?_
  ·exact ⟨1, [], [], rfl, rfl, rfl, rfl, by omega, by omega, by simp, rfl⟩
  rintro J hJ n t h ⟨i, acc, rest, t0, t6, t7, rfl, rfl, hi, hac, hS⟩
  have fl := gb_ acc
  by_cases hlt : i + 1 < l.length
  ·have hlt' : (i : Int) + 1 < l.length := by omega
   have hlt0 : i < l.length := by omega
   have ei : (i : Int) + 1 = ((i + 1 : Nat) : Int) := by omega
   have ei2 : (i : Int) + 2 = ((i + 2 : Nat) : Int) := by omega
   rw [mE_ l acc i hlt] at hS
   by_cases r0 : l[i] = 0
   ·rw [if_pos r0] at hS
    have r0' : ((l[i].toNat : Int) = 0) = True := by simp [r0]
    by_cases r1 : l[i + 1] = 0
    ·rw [if_pos r1] at hS
     have r1' : ((l[i + 1].toNat : Int) = 0) = True := by simp [r1]
     simp (disch := omega) only [t0, t6, t7, ei, ei2, hlt, r0', r1', as_, fl, hL_, take_length, Option.map_some, go_sem, Nat.reduceEqDiff, reduceCtorEq, ↓reduceIte]
     rw [hS]
     exact ⟨2, rfl⟩
    ·rw [if_neg r1] at hS
     have r1' : ((l[i + 1].toNat : Int) = 0) = False := by rw [eq_iff_iff, iff_false]; intro e; exact r1 (UInt8.toNat_inj.1 (by have h2 : (0 : UInt8).toNat = 0 := rfl; omega))
     by_cases r2 : l[i + 1] = 255
     ·rw [if_pos r2] at hS
      have r2' : ((l[i + 1].toNat : Int) = 255) = True := by simp [r2]
      simp (disch := omega) only [t0, t6, t7, ei, hlt, r0', r1', r2', as_, fl, go_sem, Nat.reduceEqDiff, Nat.reduceLeDiff, reduceCtorEq, ↓reduceIte]
      refine ⟨by omega, by omega, ?_⟩
      try simp (disch := omega) only [t0, t6, t7, ei, ei2, hlt, hlt0, r0', r1', r2', as_, fl, go_sem, Nat.reduceEqDiff, Nat.reduceAdd, Nat.reduceLeDiff, reduceCtorEq, Int.reduceLT, Int.reduceLE, Int.reduceNeg, Int.reduceSub, Int.reduceAdd, Int.reduceToNat, ↓reduceIte]
      exact ⟨l.length + 1 - (i + 2), by omega, hJ _ _ _ ⟨i + 2, acc ++ [0], rest ++ [⟨5, 1, by_ [0]⟩], by simp [upd, t0], by simp [upd], by simp [upd]; try omega, by simp [by_], rfl, by omega, by simp; omega, hS⟩⟩
     ·rw [if_neg r2] at hS
      have r2' : ((l[i + 1].toNat : Int) = 255) = False := by rw [eq_iff_iff, iff_false]; intro e; exact r2 (UInt8.toNat_inj.1 (by have h2 : (255 : UInt8).toNat = 255 := rfl; omega))
      simp (disch := omega) only [t0, t7, ei, hlt, r0', r1', r2', as_, go_sem, Nat.reduceEqDiff, reduceCtorEq, ↓reduceIte]
      rw [hS]
      exact ⟨2, rfl⟩
   ·rw [if_neg r0] at hS
    have r0' : ((l[i].toNat : Int) = 0) = False := by rw [eq_iff_iff, iff_false]; intro e; exact r0 (UInt8.toNat_inj.1 (by have h2 : (0 : UInt8).toNat = 0 := rfl; omega))
    simp (disch := omega) only [t0, t6, t7, ei, hlt, r0', as_, fl, go_sem, Nat.reduceEqDiff, Nat.reduceLeDiff, reduceCtorEq, ↓reduceIte]
    refine ⟨by omega, by omega, ?_⟩
    try simp (disch := omega) only [t0, t6, t7, ei, ei2, hlt, hlt0, r0', as_, fl, go_sem, Nat.reduceEqDiff, Nat.reduceAdd, Nat.reduceLeDiff, reduceCtorEq, Int.reduceLT, Int.reduceLE, Int.reduceNeg, Int.reduceSub, Int.reduceAdd, Int.reduceToNat, ↓reduceIte]
    exact ⟨l.length + 1 - (i + 1), by omega, hJ _ _ _ ⟨i + 1, acc ++ [l[i]], rest ++ [⟨5, 1, by_ [l[i]]⟩], by simp [upd, t0], by simp [upd], by simp [upd]; try omega, by simp [by_], rfl, by omega, by simp; omega, hS⟩⟩
  ·have hlt' : ¬ (i : Int) + 1 < l.length := by omega
   simp (disch := omega) only [t0, t7, hlt', as_, go_sem, Nat.reduceEqDiff, reduceCtorEq, ↓reduceIte]
   rw [hS, oy_ l acc i (by omega)]
   exact ⟨2, rfl⟩
theorem BV_ (l : List UInt8) (i : Nat) (h : i < l.length) : esc (l.drop i) = if l[i] = 0 then 0 :: 255 :: esc (l.drop (i + 1)) else l[i] :: esc (l.drop (i + 1)) := by
 rw [drop_eq_getElem_cons h, esc]
theorem wg_ (n k : Nat) (h : k < 8) : IntKind.u8.wrap ((n : Int).fdiv (2 ^ min (8 * (7 - (k : Int))).toNat 64)) = ((dr_ n (7 - k)).toNat : Int) := by
 have e : (8 * (7 - (k : Int))).toNat = (8 * ((7 - k : Nat) : Int)).toNat := by omega
 rw [e, pZ_ _ _ (by omega), mN_]
theorem nH_ (l : List UInt8) (b : UInt8) : by_ l ++ [[AV.val (.int .u8 b.toNat)]] = by_ (l ++ [b]) := by simp [by_]
def BS_ : LC :=
 .q [.o [.s 2 (.mov (.const (.string ⟨#[]⟩)))], .o [.s 7 (.buildSlice 5 1 (.int .u8 0) 0 []), .m 3 7], .q [.o [.m 8 0, .c1 9 176 8], .k 9 (.q [.o [.m 10 0, .c1 11 177 10, .bk 12 .add false 11 1000000000000000000, .m 4
 12], .o [.m 13 3, .s 14 (.buildSlice 5 1 (.int .u8 0) 1 [(0, .const (.int .u8 1))]), .ap 15 5 1 1 13 14, .m 3 15], .q [.o [.ki 5 7], .block 0 (.loop (.q [.q [.o [.m 16 5, .bk 17 .geq false 16 0], .k 17 .skip (.exit 0)],
 .block 1 (.o [.m 20 3, .m 21 4, .m 22 5, .s 23 (.bin .mul false (.const (.int .i64 8)) (.tmp 22)), .bb 24 .shr false 21 23, .s 25 (.convInt .u8 (.tmp 24)), .s 26 (.buildSlice 5 1 (.int .u8 0) 1 [(0, .tmp 25)]), .ap 27 5
 1 1 20 26, .m 3 27]), .o [.m 18 5, .bk 19 .sub false 18 1, .m 5 19]]))], .o [.m 28 3, .s 29 (.toStr (.tmp 28)), .m 2 29], .ret]) .skip], .o [.m 30 3, .s 31 (.buildSlice 5 1 (.int .u8 0) 1 [(0, .const (.int .u8 2))]), .ap
 32 5 1 1 30 31, .m 3 32], .q [.o [.ki 6 0], .block 2 (.loop (.q [.q [.o [.m 33 6, .m 34 0, .s 35 (.lenStr (.tmp 34)), .bb 36 .lss false 33 35], .k 36 .skip (.exit 2)], .block 3 (.q [.o [.m 39 3, .m 40 0, .m 41 6, .s 42
 (.indexStr (.tmp 40) (.tmp 41)), .s 43 (.buildSlice 5 1 (.int .u8 0) 1 [(0, .tmp 42)]), .ap 44 5 1 1 39 43, .m 3 44], .o [.m 45 0, .m 46 6, .s 47 (.indexStr (.tmp 45) (.tmp 46)), .s 48 (.bin .eql false (.tmp 47) (.const
 (.int .u8 0)))], .k 48 (.o [.m 49 3, .s 50 (.buildSlice 5 1 (.int .u8 0) 1 [(0, .const (.int .u8 255))]), .ap 51 5 1 1 49 50, .m 3 51]) .skip]), .o [.m 37 6, .bk 38 .add false 37 1, .m 6 38]]))], .o [.m 52 3, .s 53
 (.buildSlice 5 1 (.int .u8 0) 2 [(0, .const (.int .u8 0)), (1, .const (.int .u8 0))]), .ap 54 5 1 1 52 53, .s 55 (.toStr (.tmp 54)), .m 2 55], .ret]
def wL_ : LF := ⟨1, 56, BS_, [.tmp 2]⟩
theorem zv_ : au_ Tryz.prog Tryz.f148 wL_ := ah_
theorem nQ_ (l : List UInt8) (hl : l.length ≤ 1048576) (h : List Row) : aa_ Tryz.prog 148 [.val (.string (txt l))] h (.val (.string (txt (cx_ l)))) := by
 refine ak_ mixed Tryz.func148 zv_ rfl rfl ?_ h
 simp (disch := omega) only [wL_, BS_, go_sem, reduceCtorEq, ↓reduceIte]
 refine aa_.call (ig_ l (by omega) _) ?_
 by_cases q : b8_ l = true
 ·simp (disch := omega) only [q, go_sem, reduceCtorEq, ↓reduceIte]
  refine aa_.call (hD_ l (by omega) _) ?_
  have hn := eI_ l
  have hq := iG_ l
  have hq2 := iy_ l
  have hkey : cx_ l = 1 :: be8 (dh_ l) := by unfold cx_; rw [if_pos q]
  simp (disch := omega) only [as_, ← hq, go_sem, Nat.reduceEqDiff, Nat.reduceLeDiff, ↓reduceIte]
  refine ⟨by omega, ?_⟩
  try simp (disch := omega) only [as_, ← hq, go_sem, Nat.reduceEqDiff, Nat.reduceAdd, Nat.reduceLeDiff, reduceCtorEq, Int.reduceLT, Int.reduceLE, Int.reduceNeg, Int.reduceSub, Int.reduceAdd, Int.reduceToNat, ↓reduceIte]
  refine aQ_ (fun n t h => ∃ (k : Nat) (rest : List Row), t 3 = .own 0 (1 + k) ∧ t 4 = .val (.int .i64 (dh_ l)) ∧ t 5 = .val (.int .i64 (7 - k)) ∧ h = ⟨5, 1, by_ (1 :: (be8 (dh_ l)).take k)⟩ :: rest ∧ n = 8 - k ∧ k ≤ 8) 8 ?_ ?_
  ·exact ⟨0, _, rfl, rfl, rfl, rfl, rfl, by omega⟩
  rintro J hJ n t h ⟨k, rest, t3, t4, t5, rfl, rfl, hk⟩
  have fl : (by_ (1 :: (be8 (dh_ l)).take k)).length = 1 + k := by
   rw [gb_, lc_, length_take, d8_]; omega
  by_cases hlt : k < 8
  ·have hg : (0 : Int) ≤ 7 - k := by omega
   simp (disch := omega) only [t3, t4, t5, hg, fl, nr_, no_, as_, wg_, go_sem, Nat.reduceEqDiff, Nat.reduceLeDiff, ↓reduceIte]
   refine ⟨by omega, by omega, ?_⟩
   try simp (disch := omega) only [t3, t4, t5, hg, fl, nr_, no_, as_, wg_, go_sem, Nat.reduceEqDiff, Nat.reduceAdd, Nat.reduceLeDiff, reduceCtorEq, Int.reduceLT, Int.reduceLE, Int.reduceNeg, Int.reduceSub, Int.reduceAdd, Int.reduceToNat, ↓reduceIte]
   refine ⟨8 - (k + 1), by omega, hJ _ _ _ ⟨k + 1, rest ++ [⟨5, 1, by_ [dr_ (dh_ l) (7 - k)]⟩], by simp [upd]; try omega, by simp [upd, t4], by simp [upd]; try omega, ?_, rfl, by omega⟩⟩
   rw [nH_, cons_append, ← qh_ _ _ hlt]
   rfl
  ·have hg : ¬ (0 : Int) ≤ 7 - k := by omega
   simp (disch := omega) only [t3, t5, hg, fl, hL_, Option.map_some, go_sem, Nat.reduceEqDiff, ↓reduceIte]
   rw [rx_ _ _ (by omega), ← hkey]
   exact ⟨1, rfl⟩
 ·have q' : b8_ l = false := by simpa using q
  have hkey : cx_ l = 2 :: (esc l ++ [0, 0]) := by unfold cx_; rw [if_neg q]
  simp (disch := omega) only [q', go_sem, Nat.reduceEqDiff, Nat.reduceLeDiff, ↓reduceIte]
  refine ⟨by omega, ?_⟩
  try simp (disch := omega) only [go_sem, Nat.reduceEqDiff, Nat.reduceAdd, Nat.reduceLeDiff, reduceCtorEq, Int.reduceLT, Int.reduceLE, Int.reduceNeg, Int.reduceSub, Int.reduceAdd, Int.reduceToNat, ↓reduceIte]
  refine aQ_ (fun n t h => ∃ (i : Nat) (out : List UInt8) (rest : List Row), t 0 = .val (.string (txt l)) ∧ t 3 = .own 0 out.length ∧ t 6 = .val (.int .i64 i) ∧ h = ⟨5, 1, by_ out⟩ :: rest ∧ n = l.length - i ∧ i ≤ l.length ∧ out.length ≤ 1 + 2 * i ∧ 2 :: esc l = out ++ esc (l.drop i)) l.length ?_ ?_
  ·exact ⟨0, [2], _, rfl, rfl, rfl, rfl, rfl, by omega, by simp, rfl⟩
  rintro J hJ n t h ⟨i, out, rest, t0, t3, t6, rfl, rfl, hi, hol, hS⟩
  have fl := gb_ out
  by_cases hlt : i < l.length
  ·have hltI : (i : Int) < l.length := by omega
   rw [BV_ l i hlt] at hS
   by_cases r0 : l[i] = 0
   ·rw [if_pos r0] at hS
    have r0' : ((l[i].toNat : Int) = 0) = True := by simp [r0]
    simp (disch := omega) only [t0, t3, t6, hltI, r0', fl, as_, go_sem, Nat.reduceEqDiff, Nat.reduceLeDiff, reduceCtorEq, ↓reduceIte]
    refine ⟨by omega, by omega, ?_⟩
    refine ⟨by omega, by omega, ?_⟩
    refine ⟨l.length - (i + 1), by omega, hJ _ _ _ ⟨i + 1, out ++ [0, 255], rest ++ [⟨5, 1, by_ [l[i]]⟩, ⟨5, 1, by_ [255]⟩], by simp [upd, t0], by simp [upd], by simp [upd]; try omega, by simp [by_, r0], rfl, by omega, by simp; omega, by rw [hS]; simp⟩⟩
   ·rw [if_neg r0] at hS
    have r0' : ((l[i].toNat : Int) = 0) = False := by rw [eq_iff_iff, iff_false]; intro e; exact r0 (UInt8.toNat_inj.1 (by have h2 : (0 : UInt8).toNat = 0 := rfl; omega))
    simp (disch := omega) only [t0, t3, t6, hltI, r0', fl, as_, go_sem, Nat.reduceEqDiff, Nat.reduceLeDiff, reduceCtorEq, ↓reduceIte]
    refine ⟨by omega, by omega, ?_⟩
    try simp (disch := omega) only [t0, t3, t6, hltI, hlt, r0', fl, as_, go_sem, Nat.reduceEqDiff, Nat.reduceAdd, Nat.reduceLeDiff, reduceCtorEq, Int.reduceLT, Int.reduceLE, Int.reduceNeg, Int.reduceSub, Int.reduceAdd, Int.reduceToNat, ↓reduceIte]
    exact ⟨l.length - (i + 1), by omega, hJ _ _ _ ⟨i + 1, out ++ [l[i]], rest ++ [⟨5, 1, by_ [l[i]]⟩], by simp [upd, t0], by simp [upd], by simp [upd]; try omega, by simp [by_], rfl, by omega, by simp; omega, by rw [hS]; simp⟩⟩
  ·have hltI : ¬ (i : Int) < l.length := by omega
   rw [drop_eq_nil_of_le (by omega), esc, append_nil] at hS
   simp (disch := omega) only [t0, t3, t6, hltI, fl, go_sem, Nat.reduceEqDiff, Nat.reduceAdd, Nat.reduceLeDiff, reduceCtorEq, ↓reduceIte]
   refine ⟨by omega, by omega, ?_⟩
   have e2 : by_ out ++ [[AV.val (.int .u8 0)], [AV.val (.int .u8 0)]] = by_ (out ++ [0, 0]) := by simp [by_]
   simp (disch := omega) only [e2, hL_, Option.map_some, go_sem]
   rw [hkey, ← hS]
   exact ⟨1, rfl⟩
def Br_ : LC :=
 .q [.o [.s 2 (.mov (.const (.string ⟨#[]⟩)))], .o [.s 3 (.mov (.const (.string ⟨#[]⟩)))], .q [.o [.ki 4 0], .block 0 (.loop (.q [.q [.o [.m 5 4, .m 6 0, .ll 7 6, .bb 8 .lss false 5 7], .k 8 .skip (.exit 0)], .block 1 (.o
 [.m 11 3, .m 12 0, .m 13 4, .ia 14 1 12 13, .ln 15 14, .c1 16 148 15, .bb 17 .add false 11 16, .m 3 17]), .o [.m 9 4, .bk 10 .add false 9 1, .m 4 10]]))], .o [.m 18 3, .m 2 18], .ret]
def wH_ : LF := ⟨1, 19, Br_, [.tmp 2]⟩
theorem AB_ : au_ Tryz.prog Tryz.f111 wH_ := ah_
theorem g1_ (xs : List ByteArray) (hx : bq_ xs = true) (h : List Row) : aa_ Tryz.prog 111 [.list 0 1 (xs.map aj_)] h (.val (.string (txt (cM_ (bss xs))))) := by
 refine ak_ mixed Tryz.func111 AB_ rfl rfl ?_ h
 obtain ⟨h4, hm⟩ := eL_ hx
 simp (disch := omega) only [wH_, Br_, go_sem]
 refine aQ_ (fun n t h => ∃ k : Nat, t 0 = .list 0 1 (xs.map aj_) ∧ t 3 = .val (.string (txt (cM_ (bss (xs.take k))))) ∧ t 4 = .val (.int .i64 k) ∧ h = [] ∧ n = xs.length - k ∧ k ≤ xs.length) xs.length ⟨0, rfl, rfl, rfl, rfl, rfl, Nat.zero_le _⟩ ?_
 rintro J hJ n t h ⟨k, t0, t3, t4, rfl, rfl, hk⟩
 by_cases hlt : k < xs.length
 ·have hltI : (k : Int) < xs.length := by omega
  have hl1 := j9_ (xs.take k) (fun x hx' => (hm x (mem_of_mem_take hx')).2)
  have hl2 : (xs.take k).length ≤ 4 := by rw [length_take]; omega
  have hl3 := hz_ (bs xs[k])
  have hl4 := hm _ (getElem_mem hlt)
  have hl5 : (bs xs[k]).length = xs[k].size := fe_ _
  have hc := fun h => nQ_ (bs xs[k]) (by omega) h
  rw [eq_] at hc
  have hadd : (cM_ (bss (xs.take k))).length + (cx_ (bs xs[k])).length ≤ 9223372036854775807 := by omega
  simp (disch := omega) only [t0, t3, t4, hltI, go_sem, Nat.reduceEqDiff, reduceCtorEq, ↓reduceIte]
  refine aa_.call (hc _) ?_
  simp (disch := omega) only [t4, jP_ _ _ _ hadd, as_, go_sem, Nat.reduceEqDiff, ↓reduceIte]
  refine ⟨xs.length - (k + 1), by omega, hJ _ _ _ ⟨k + 1, by simp [upd, t0], ?_, by simp [upd], rfl, rfl, by omega⟩⟩
  rw [take_succ_eq_append_getElem hlt, bss, bss, map_append, pF_]
  simp [upd, cM_]
 ·have hltI : ¬ (k : Int) < xs.length := by omega
  simp (disch := omega) only [t0, t3, t4, hltI, go_sem, Nat.reduceEqDiff, reduceCtorEq, ↓reduceIte]
  rw [take_of_length_le (by omega)]
  exact ⟨1, rfl⟩
theorem tm_ {s : ByteArray} (h : cV_ dy_ 5 (bs s) [] = none) : dz_ s = ([], false) := by
 rw [dz_, kK_, fL_, h]
theorem nn_ {s : ByteArray} {out : List (List UInt8)} {left : List UInt8} (h : cV_ dy_ 5 (bs s) [] = some (out, left)) (q : ¬ (left = [] ∧ en_ out = true ∧ cM_ out = bs s)) : dz_ s = ([], false) := by
 rw [dz_, kK_, fL_, h]; simp only; rw [if_neg q]
theorem vR_ {s : ByteArray} {out : List (List UInt8)} (h : cV_ dy_ 5 (bs s) [] = some (out, [])) (h2 : en_ out = true) (h3 : cM_ out = bs s) : dz_ s = (out.map txt, true) := by
 rw [dz_, kK_]; simp [fL_, h, h2, h3]
def c75 : LC :=
 .q [.o [.nl 2, .f 3], .o [.s 9 (.buildSlice 9 1 (.string ⟨#[]⟩) 0 []), .m 4 9], .o [.m 10 0, .m 5 10], .block 0 (.loop (.q [.q [.o [.m 11 5, .s 12 (.bin .neq false (.tmp 11) (.const (.string ⟨#[]⟩))), .m 13 12, .gm 14 13
 true 4, .g 15 13 true (.lenSl (.tmp 14)), .g 16 13 true (.bin .leq false (.tmp 15) (.const (.int .i64 4))), .pf 17 13 16], .k 17 .skip (.exit 0)], .block 1 (.q [.o [.m 19 5, .c1 20 109 19, .m 18 20, .ex 21 18 0, .ex 22
 18 1, .ex 23 18 2, .m 6 21, .m 7 22, .m 8 23], .q [.o [.m 24 8, .nt 25 24], .k 25 (.q [.o [.s 26 (.buildSlice 9 1 (.string ⟨#[]⟩) 0 []), .m 2 26, .f 3], .ret]) .skip], .o [.m 27 4, .m 28 6, .s 29 (.buildSlice 9 1
 (.string ⟨#[]⟩) 1 [(0, .tmp 28)]), .ap 30 9 1 16 27 29, .m 4 30], .o [.m 31 7, .m 5 31]])])), .q [.o [.m 32 5, .s 33 (.bin .neq false (.tmp 32) (.const (.string ⟨#[]⟩))), .m 34 33, .gm 35 34 false 4, .gc 36 34 false 110
 35, .gu 37 34 false 36, .pt 38 34 37, .m 39 38, .gm 40 39 false 4, .gc 41 39 false 111 40, .gm 42 39 false 0, .g 43 39 false (.bin .neq false (.tmp 41) (.tmp 42)), .pt 44 39 43], .k 44 (.q [.o [.s 45 (.buildSlice 9 1
 (.string ⟨#[]⟩) 0 []), .m 2 45, .f 3], .ret]) .skip], .o [.m 46 4, .m 2 46, .t 3], .ret]
def AL_ : LF := ⟨1, 47, c75, [.tmp 2, .tmp 3]⟩
theorem CV_ : au_ Tryz.prog Tryz.f75 AL_ := ah_
theorem kx_ (s : ByteArray) (hs : s.size ≤ 1048576) : aK_ Tryz.prog 75 [.val (.string s)] (o3_ (dz_ s)) (fun a => ∃ b q, a = .tup [b, .val (.bool q)]) := by
 refine dq_ mixed Tryz.func75 CV_ rfl (fun h0 => ?_)
 have hbl := fe_ s
 simp (disch := omega) only [AL_, c75, go_sem, reduceCtorEq, ↓reduceIte]
 refine aQ_ (fun n t h => ∃ (out : List (List UInt8)) (left : List UInt8) (rest : List Row), t 0 = .val (.string s) ∧ t 4 = .own h0.length out.length ∧ t 5 = .val (.string (txt left)) ∧ h = h0 ++ ⟨9, 1, ef_ out⟩ :: rest ∧ n = 5 - out.length ∧ out.length ≤ 5 ∧ left.length ≤ s.size ∧ cV_ dy_ 5 (bs s) [] = cV_ dy_ (5 - out.length) left out) 5 ?_ ?_
 ·exact ⟨[], bs s, [], rfl, rfl, by rw [eq_]; rfl, rfl, rfl, by simp, Nat.le_of_eq (fe_ s), rfl⟩
 rintro J hJ n t h ⟨out, left, rest, t0, t4, t5, rfl, rfl, ho, hle, hS⟩
 have fl : (ef_ out).length = out.length := by simp
 have hA := p1_ h0 out rest
 by_cases q0 : left = []
 ·subst q0
  have hR : cV_ dy_ 5 (bs s) [] = some (out, []) := by
   rw [hS]; cases 5 - out.length with
   | zero => rw [cV_]
   | succ f => rw [cV_, if_pos rfl]
  have q0' : (txt ([] : List UInt8) = txt []) = True := by simp
  simp (disch := omega) only [t4, t5, ag_, go_sem, Nat.reduceEqDiff, ↓reduceIte]
  refine aa_.call (AW.frozen (d2_ (out.map txt) (by simp; omega)) hA) ?_
  by_cases s1 : en_ out = true
  case neg =>
   have s1' : bq_ (out.map txt) = false := by rw [ee_]; simpa using s1
   simp (disch := omega) only [t4, s1', ag_, go_sem, Nat.reduceEqDiff, ↓reduceIte]
   rw [nn_ hR (fun q => s1 q.2.1)]
   exact ⟨_, rfl, c1_ (fv_ (out := []) (E := 9) (by first | (rw [bR_]; rfl) | (rw [bR_]; simp)) (by omega)) (by omega) _, _, _, rfl⟩
  have s1' : bq_ (out.map txt) = true := by rw [ee_]; exact s1
  simp (disch := omega) only [t4, s1', go_sem, Nat.reduceEqDiff, ↓reduceIte]
  refine aa_.call (AW.frozen (g1_ (out.map txt) s1') hA) ?_
  rw [qu_]
  by_cases s2 : cM_ out = bs s
  case neg =>
   have s2' : (txt (cM_ out) = s) = False := by rw [eq_iff_iff, iff_false]; intro e; exact s2 (by rw [← e]; exact (ce_ _).symm)
   simp (disch := omega) only [t0, t4, s2', ag_, go_sem, Nat.reduceEqDiff, reduceCtorEq, ↓reduceIte]
   rw [nn_ hR (fun q => s2 q.2.2)]
   exact ⟨_, rfl, c1_ (fv_ (out := []) (E := 9) (by first | (rw [bR_]; rfl) | (rw [bR_]; simp)) (by omega)) (by omega) _, _, _, rfl⟩
  have s2' : (txt (cM_ out) = s) = True := by rw [s2, eq_]; simp
  simp (disch := omega) only [t0, t4, s2', ag_, go_sem, Nat.reduceEqDiff, reduceCtorEq, ↓reduceIte]
  rw [vR_ hR s1 s2]
  have hz := c1_ (fv_ (base := h0.length) (l := h0.length) (E := 9) (out := out.map txt) (H := h0 ++ ⟨9, 1, ef_ out⟩ :: rest) (by rw [cn_]; rfl) (Nat.le_refl _)) (by omega) (.bool true)
  rw [List.length_map] at hz
  exact ⟨_, rfl, hz, _, _, rfl⟩
 ·have hpos : 0 < left.length := by cases left with
   | nil => exact absurd rfl q0
   | cons b l => simp
  have q0' : (txt left = txt []) = False := by rw [lQ_]; simp [q0]
  by_cases q4 : out.length ≤ 4
  ·have q4' : (out.length : Int) ≤ 4 := by omega
   have e5 : 5 - out.length = (4 - out.length) + 1 := by omega
   rw [e5, or_ dy_ (4 - out.length) left out q0] at hS
   simp (disch := omega) only [t4, t5, q0', q4', fl, ag_, go_sem, Nat.reduceEqDiff, ↓reduceIte]
   have hc := fun h => mV_ left hpos (by omega) h
   cases hn : dy_ left with
   | none =>
    rw [hn, i6_] at hc
    rw [hn] at hS
    refine aa_.call (hc _) ?_
    simp (disch := omega) only [t4, fl, ag_, go_sem, Nat.reduceEqDiff, Nat.reduceLeDiff, ↓reduceIte]
    rw [tm_ (by rw [hS])]
    exact ⟨_, rfl, c1_ (fv_ (out := []) (E := 9) (by first | (rw [bR_]; rfl) | (rw [bR_]; simp)) (by omega)) (by omega) _, _, _, rfl⟩
   | some p =>
    obtain ⟨x, r⟩ := p
    rw [hn, ja_] at hc
    have hlen := ts_ left x r hn
    rw [hn] at hS
    refine aa_.call (hc _) ?_
    simp (disch := omega) only [t4, fl, ag_, go_sem, Nat.reduceEqDiff, Nat.reduceLeDiff, ↓reduceIte]
    refine ⟨by omega, by omega, ?_⟩
    try simp (disch := omega) only [t0, t4, t5, q0', q4', fl, ag_, go_sem, Nat.reduceEqDiff, Nat.reduceAdd, Nat.reduceLeDiff, reduceCtorEq, Int.reduceLT, Int.reduceLE, Int.reduceNeg, Int.reduceSub, Int.reduceAdd, Int.reduceToNat, ↓reduceIte]
    exact ⟨5 - (out.length + 1), by omega, hJ _ _ _ ⟨out ++ [x], r, rest ++ [⟨9, 1, [[.val (.string (txt x))]]⟩], by simp [upd, t0], by simp [upd], by simp [upd], by simp [aj_], by simp, by simp; omega, by omega, by simpa [Nat.sub_sub] using hS⟩⟩
  ·have q4' : ¬ (out.length : Int) ≤ 4 := by omega
   have e0 : 5 - out.length = 0 := by omega
   have hR : cV_ dy_ 5 (bs s) [] = some (out, left) := by rw [hS, e0, cV_]
   simp (disch := omega) only [t4, t5, q0', q4', fl, ag_, go_sem, Nat.reduceEqDiff, ↓reduceIte]
   rw [nn_ hR (fun q => q0 q.1)]
   exact ⟨_, rfl, c1_ (fv_ (out := []) (E := 9) (by first | (rw [bR_]; rfl) | (rw [bR_]; simp)) (by omega)) (by omega) _, _, _, rfl⟩
theorem iE_ (s : ByteArray) (hs : s.size ≤ 1048576) (h : List Row) : aa_ Tryz.prog 75 [.val (.string s)] h (o3_ (dz_ s)) := (kx_ s hs).pure rfl h
def er_ (n : Int) : Bool := decide (n = 0) || decide (n = 1) || decide (n = 10) || decide (n = 11)
def AZ_ : LC :=
 .q [.o [.f 2], .o [.m 3 0, .bk 4 .eql false 3 0, .m 5 4, .gm 6 5 false 0, .g 7 5 false (.bin .eql false (.tmp 6) (.const (.int .i64 1))), .pt 8 5 7, .m 9 8, .gm 10 9 false 0, .g 11 9 false (.bin .eql false (.tmp 10)
 (.const (.int .i64 10))), .pt 12 9 11, .m 13 12, .gm 14 13 false 0, .g 15 13 false (.bin .eql false (.tmp 14) (.const (.int .i64 11))), .pt 16 13 15, .m 2 16], .ret]
def wp_ : LF := ⟨1, 17, AZ_, [.tmp 2]⟩
theorem AA_ : au_ Tryz.prog Tryz.f129 wp_ := ah_
theorem e1_ (n : Int)  (h : List Row) : aa_ Tryz.prog 129 [.val (.int .i64 n)] h (.val (.bool (er_ n))) := by
 refine ak_ mixed Tryz.func129 AA_ rfl rfl ?_ h
 simp (disch := omega) only [wp_, AZ_, go_sem, reduceCtorEq, ↓reduceIte]
 repeat' (first
  | exact af_ _ _
  | (refine ad_ ?_; simp [er_, *]; done)
  | simp (disch := omega) only [go_sem, Nat.reduceEqDiff, reduceCtorEq, ↓reduceIte]
  | ((first | (apply aW_; assumption) | (apply aX_; assumption) | (apply bb_; assumption) | (apply ba_; assumption)); intro hb; try simp only [hb])
  | ((first | (apply aM_; assumption) | (apply aO_; assumption) | (apply aR_; assumption) | (apply aS_; assumption)); intro hb; try simp only [hb])
  | ((first | apply aC_ | apply aG_ | apply an_ | apply ar_) <;> intro hb <;> (try simp only [hb]) <;> (first | have hp := a5_ hb | have hp := a4_ hb | have hp := a6_ hb | have hp := a7_ hb | skip)))
def c73 : LC :=
 .q [.o [.f 2], .o [.m 3 0, .bk 4 .eql false 3 0, .m 5 4, .gm 6 5 false 0, .g 7 5 false (.bin .eql false (.tmp 6) (.const (.int .i64 1))), .pt 8 5 7, .m 9 8, .gm 10 9 false 0, .g 11 9 false (.bin .eql false (.tmp 10)
 (.const (.int .i64 10))), .pt 12 9 11, .m 13 12, .gm 14 13 false 0, .g 15 13 false (.bin .eql false (.tmp 14) (.const (.int .i64 11))), .pt 16 13 15, .m 2 16], .ret]
def yP_ : LF := ⟨1, 17, c73, [.tmp 2]⟩
theorem D0_ : au_ Tryz.prog Tryz.f73 yP_ := ah_
theorem e2_ (n : Int)  (h : List Row) : aa_ Tryz.prog 73 [.val (.int .i64 n)] h (.val (.bool (er_ n))) := by
 refine ak_ mixed Tryz.func73 D0_ rfl rfl ?_ h
 simp (disch := omega) only [yP_, c73, go_sem, reduceCtorEq, ↓reduceIte]
 repeat' (first
  | exact af_ _ _
  | (refine ad_ ?_; simp [er_, *]; done)
  | simp (disch := omega) only [go_sem, Nat.reduceEqDiff, reduceCtorEq, ↓reduceIte]
  | ((first | (apply aW_; assumption) | (apply aX_; assumption) | (apply bb_; assumption) | (apply ba_; assumption)); intro hb; try simp only [hb])
  | ((first | (apply aM_; assumption) | (apply aO_; assumption) | (apply aR_; assumption) | (apply aS_; assumption)); intro hb; try simp only [hb])
  | ((first | apply aC_ | apply aG_ | apply an_ | apply ar_) <;> intro hb <;> (try simp only [hb]) <;> (first | have hp := a5_ hb | have hp := a4_ hb | have hp := a6_ hb | have hp := a7_ hb | skip)))
def eJ_ (s : ByteArray) : Bool := decide (64 < (s.size : Int))
def BE_ : LC :=
 .q [.o [.f 2], .o [.m 3 0, .s 4 (.lenStr (.tmp 3)), .bk 5 .gtr false 4 64, .m 2 5], .ret]
def xp_ : LF := ⟨1, 6, BE_, [.tmp 2]⟩
theorem zZ_ : au_ Tryz.prog Tryz.f159 xp_ := ah_
theorem it_ (s : ByteArray)  (h : List Row) : aa_ Tryz.prog 159 [.val (.string s)] h (.val (.bool (eJ_ s))) := by
 refine ak_ mixed Tryz.func159 zZ_ rfl rfl ?_ h
 simp (disch := omega) only [xp_, BE_, go_sem, reduceCtorEq, ↓reduceIte]
 repeat' (first
  | exact af_ _ _
  | (refine ad_ ?_; first | rfl | (simp only [eJ_, *, Bool.and_true, Bool.true_and, Bool.and_false, Bool.false_and, Bool.or_true, Bool.true_or, Bool.or_false, Bool.false_or, Bool.not_true, Bool.not_false, decide_true, decide_false, Bool.and_self, Bool.or_self]; done) | (simp [eJ_, *]; done))
  | simp (disch := omega) only [go_sem, Nat.reduceEqDiff, Nat.reduceAdd, Nat.reduceLeDiff, reduceCtorEq, Int.reduceLT, Int.reduceLE, Int.reduceNeg, Int.reduceSub, Int.reduceAdd, Int.reduceToNat, ↓reduceIte]
  | ((first | (apply aM_; assumption) | (apply aO_; assumption) | (apply aR_; assumption) | (apply aS_; assumption)); intro hb; try simp only [hb])
  | ((first | apply an_ | apply ar_) <;> intro hb <;> (try simp only [hb]) <;> (first | have hp := a5_ hb | have hp := a4_ hb | have hp := a6_ hb | have hp := a7_ hb | skip)))
def Az_ : LC :=
 .q [.o [.f 2], .o [.m 3 0, .s 4 (.call 133 [.tmp 3, .func 159]), .m 2 4], .ret]
def wv_ : LF := ⟨1, 5, Az_, [.tmp 2]⟩
theorem Ch_ : au_ Tryz.prog Tryz.f130 wv_ := ah_
theorem ph_ (xs : List ByteArray) (hx : xs.length ≤ 1048576) (h : List Row) : aa_ Tryz.prog 130 [.list 0 1 (xs.map aj_)] h (.val (.bool (xs.any eJ_))) := by
 refine ak_ mixed Tryz.func130 Ch_ rfl rfl ?_ h
 simp (disch := omega) only [wv_, Az_, go_sem, reduceCtorEq, ↓reduceIte]
 repeat' (first
  | exact af_ _ _
  | simp (disch := omega) only [go_sem, ↓reduceIte]
  | (refine aa_.call (cv_ _ eJ_ 159 hx (by kernel_rfl) (fun x _ h => it_ x h) _) ?_)
  | (refine aa_.q (cv_ _ eJ_ 159 hx (by kernel_rfl) (fun x _ h => it_ x h) _) ?_)
  | ((first | (apply aM_; assumption) | (apply aO_; assumption) | (apply aR_; assumption) | (apply aS_; assumption)); intro hb; try simp only [hb])
  | ((first | apply an_ | apply ar_) <;> intro hb <;> (try simp only [hb]) <;> (first | have hp := a5_ hb | have hp := a4_ hb | have hp := a6_ hb | have hp := a7_ hb | skip)))
theorem gV_ (s : ByteArray) {H : List Row} (hl : H[1]? = some ⟨9, 1, [[.val (.string s)]]⟩) : aa_ Tryz.prog 130 [.own 1 1] H (.val (.bool (eJ_ s))) := by
 have : aa_ Tryz.prog 130 [.own 1 1] H (.val (.bool ([s].any eJ_))) := AW.frozen (n := 2) (ph_ [s] (by simp)) (py_ (lq_ (n := 0) hl rfl (by simp [AV.flat])))
 simpa using this
def bk_ (e : ab_) : Bool :=
 if e.Kind = 1 then er_ e.N && !eJ_ e.Value && (decide (e.N.tmod 10 = 1) || decide (e.Value = txt []))
 else if e.Kind = 4 then er_ e.N && decide (e.Value = txt [])
 else if e.Kind = 5 then (decide (e.N = 1) || decide (e.N = -1)) && (decide (e.Value = txt []) || bU_ e.Value)
 else if e.Kind = 6 then decide (e.N = 1) && (dz_ e.Value).2 || decide (e.N = 0) && decide (e.Value = txt [])
 else if e.Kind = 2 then decide (e.N = 0) && !eJ_ e.Value
 else decide (e.Kind = 3) && decide (e.N = 0) && decide (e.Value = txt [])
def c93 : LC :=
 .q [.o [.bx 1 44 0, .f 2], .q [.o [.fa 5 0 1, .ln 6 5], .block 0 (.q [.o [.bk 8 .eql false 6 1, .m 7 8], .k 7 (.q [.o [.fa 9 4 1, .ln 10 9, .c1 11 129 10, .m 12 11, .gf 13 12 true 3 1, .gn 14 12 true 13, .g 15 12 true
 (.buildSlice 9 1 (.string ⟨#[]⟩) 1 [(0, .tmp 14)]), .gc 16 12 true 130 15, .gu 17 12 true 16, .pf 18 12 17, .m 19 18, .gf 20 19 true 4 1, .gn 21 19 true 20, .g 22 19 true (.bin .rem false (.tmp 21) (.const (.int .i64
 10))), .g 23 19 true (.bin .eql false (.tmp 22) (.const (.int .i64 1))), .gm 24 19 true 23, .gf 25 24 false 3 1, .gn 26 24 false 25, .g 27 24 false (.bin .eql false (.tmp 26) (.const (.string ⟨#[]⟩))), .g 28 19 true
 (.pick (.tmp 24) (.const (.bool true)) (.tmp 27)), .pf 29 19 28, .m 2 29], .ret]) (.q [.o [.bk 31 .eql false 6 4, .m 30 31], .k 30 (.q [.o [.fa 32 4 1, .ln 33 32, .c1 34 129 33, .m 35 34, .gf 36 35 true 3 1, .gn 37 35
 true 36, .g 38 35 true (.bin .eql false (.tmp 37) (.const (.string ⟨#[]⟩))), .pf 39 35 38, .m 2 39], .ret]) (.q [.o [.bk 41 .eql false 6 5, .m 40 41], .k 40 (.q [.o [.fa 42 4 1, .ln 43 42, .bk 44 .eql false 43 1, .m 45
 44, .gf 46 45 false 4 1, .gn 47 45 false 46, .g 48 45 false (.bin .eql false (.tmp 47) (.const (.int .i64 (-1)))), .pt 49 45 48, .m 50 49, .gf 51 50 true 3 1, .gn 52 50 true 51, .g 53 50 true (.bin .eql false (.tmp 52)
 (.const (.string ⟨#[]⟩))), .gm 54 50 true 53, .gf 55 54 false 3 1, .gn 56 54 false 55, .gc 57 54 false 131 56, .g 58 50 true (.pick (.tmp 54) (.const (.bool true)) (.tmp 57)), .pf 59 50 58, .m 2 59], .ret]) (.q [.o [.bk
 61 .eql false 6 6, .m 60 61], .k 60 (.q [.o [.fa 63 3 1, .ln 64 63, .c1 65 132 64, .m 62 65, .ex 66 62 0, .ex 67 62 1, .m 3 66, .m 4 67], .o [.fa 68 4 1, .ln 69 68, .bk 70 .eql false 69 1, .m 71 70, .gm 72 71 true 4, .pf
 73 71 72, .m 74 73, .gf 75 74 false 4 1, .gn 76 74 false 75, .g 77 74 false (.bin .eql false (.tmp 76) (.const (.int .i64 0))), .gm 78 74 false 77, .gf 79 78 true 3 1, .gn 80 78 true 79, .g 81 78 true (.bin .eql false
 (.tmp 80) (.const (.string ⟨#[]⟩))), .g 82 74 false (.pick (.tmp 78) (.tmp 81) (.const (.bool false))), .pt 83 74 82, .m 2 83], .ret]) (.q [.o [.bk 85 .eql false 6 2, .m 84 85], .k 84 (.q [.o [.fa 86 4 1, .ln 87 86, .bk
 88 .eql false 87 0, .m 89 88, .gf 90 89 true 3 1, .gn 91 89 true 90, .g 92 89 true (.buildSlice 9 1 (.string ⟨#[]⟩) 1 [(0, .tmp 91)]), .gc 93 89 true 130 92, .gu 94 89 true 93, .pf 95 89 94, .m 2 95], .ret])
 .skip])])])])])], .o [.fa 96 0 1, .ln 97 96, .bk 98 .eql false 97 3, .m 99 98, .gf 100 99 true 4 1, .gn 101 99 true 100, .g 102 99 true (.bin .eql false (.tmp 101) (.const (.int .i64 0))), .pf 103 99 102, .m 104 103, .gf
 105 104 true 3 1, .gn 106 104 true 105, .g 107 104 true (.bin .eql false (.tmp 106) (.const (.string ⟨#[]⟩))), .pf 108 104 107, .m 2 108], .ret]
def yU_ : LF := ⟨1, 109, c93, [.tmp 2]⟩
theorem C4_ : au_ Tryz.prog Tryz.f93 yU_ := ah_
theorem gi_ (x : ab_) (hx : ab_.sz x ≤ 1048576) (h : List Row) : aa_ Tryz.prog 93 [.agg (ab_.cells x)] h (.val (.bool (bk_ x))) := by
 refine ak_ mixed Tryz.func93 C4_ rfl rfl ?_ h
 have hv := ab_.sz_Value hx
 simp (disch := omega) only [yU_, c93, ab_.cells, go_sem, Nat.reduceEqDiff, Nat.reduceAdd, Int.reduceNeg, ↓reduceIte]
 by_cases k1 : x.Kind = 1
 ·simp (disch := omega) only [k1, go_sem, Nat.reduceEqDiff, Int.reduceNeg, ↓reduceIte]
  repeat' (first
   | exact af_ _ _
   | (refine ad_ ?_; simp [bk_, *]; done)
   | simp (disch := omega) only [go_sem, Nat.reduceEqDiff, ↓reduceIte]
   | (refine aa_.call (e1_ _ _) ?_)
   | (refine aa_.q (e1_ _ _) ?_)
   | (refine aa_.call (gV_ x.Value rfl) ?_)
   | (refine aa_.q (gV_ x.Value rfl) ?_)
   | ((first | (apply aW_; assumption) | (apply aX_; assumption) | (apply bb_; assumption) | (apply ba_; assumption)); intro hb; try simp only [hb])
   | ((first | (apply aM_; assumption) | (apply aO_; assumption) | (apply aR_; assumption) | (apply aS_; assumption)); intro hb; try simp only [hb])
   | ((first | apply aC_ | apply aG_ | apply an_ | apply ar_) <;> intro hb <;> (try simp only [hb]) <;> (first | have hp := a5_ hb | have hp := a4_ hb | have hp := a6_ hb | have hp := a7_ hb | skip)))
 by_cases k4 : x.Kind = 4
 ·simp (disch := omega) only [k4, Int.reduceEq, go_sem, Nat.reduceEqDiff, Int.reduceNeg, ↓reduceIte]
  repeat' (first
   | exact af_ _ _
   | (refine ad_ ?_; simp [bk_, *]; done)
   | simp (disch := omega) only [go_sem, Nat.reduceEqDiff, ↓reduceIte]
   | (refine aa_.call (e1_ _ _) ?_)
   | (refine aa_.q (e1_ _ _) ?_)
   | (refine aa_.call (gV_ x.Value rfl) ?_)
   | (refine aa_.q (gV_ x.Value rfl) ?_)
   | ((first | (apply aW_; assumption) | (apply aX_; assumption) | (apply bb_; assumption) | (apply ba_; assumption)); intro hb; try simp only [hb])
   | ((first | (apply aM_; assumption) | (apply aO_; assumption) | (apply aR_; assumption) | (apply aS_; assumption)); intro hb; try simp only [hb])
   | ((first | apply aC_ | apply aG_ | apply an_ | apply ar_) <;> intro hb <;> (try simp only [hb]) <;> (first | have hp := a5_ hb | have hp := a4_ hb | have hp := a6_ hb | have hp := a7_ hb | skip)))
 by_cases k5 : x.Kind = 5
 ·simp (disch := omega) only [k5, Int.reduceEq, go_sem, Nat.reduceEqDiff, Int.reduceNeg, ↓reduceIte]
  repeat' (first
   | exact af_ _ _
   | (refine ad_ ?_; simp [bk_, *]; done)
   | simp (disch := omega) only [go_sem, Nat.reduceEqDiff, Int.reduceNeg, ↓reduceIte]
   | (refine aa_.call (f6_ _ _) ?_)
   | (refine aa_.q (f6_ _ _) ?_)
   | ((first | (apply aW_; assumption) | (apply aX_; assumption) | (apply bb_; assumption) | (apply ba_; assumption)); intro hb; try simp only [hb])
   | ((first | (apply aM_; assumption) | (apply aO_; assumption) | (apply aR_; assumption) | (apply aS_; assumption)); intro hb; try simp only [hb])
   | ((first | apply aC_ | apply aG_ | apply an_ | apply ar_) <;> intro hb <;> (try simp only [hb]) <;> (first | have hp := a5_ hb | have hp := a4_ hb | have hp := a6_ hb | have hp := a7_ hb | skip)))
 by_cases k6 : x.Kind = 6
 ·simp (disch := omega) only [k6, Int.reduceEq, go_sem, Nat.reduceEqDiff, Int.reduceNeg, ↓reduceIte]
  repeat' (first
   | exact af_ _ _
   | (refine ad_ ?_; simp [bk_, *]; done)
   | simp (disch := omega) only [go_sem, Nat.reduceEqDiff, ↓reduceIte]
   | (refine aa_.call (iU_ _ hv _) ?_)
   | (refine aa_.q (iU_ _ hv _) ?_)
   | ((first | (apply aW_; assumption) | (apply aX_; assumption) | (apply bb_; assumption) | (apply ba_; assumption)); intro hb; try simp only [hb])
   | ((first | (apply aM_; assumption) | (apply aO_; assumption) | (apply aR_; assumption) | (apply aS_; assumption)); intro hb; try simp only [hb])
   | ((first | apply aC_ | apply aG_ | apply an_ | apply ar_) <;> intro hb <;> (try simp only [hb]) <;> (first | have hp := a5_ hb | have hp := a4_ hb | have hp := a6_ hb | have hp := a7_ hb | skip)))
 by_cases k2 : x.Kind = 2
 ·simp (disch := omega) only [k2, Int.reduceEq, go_sem, Nat.reduceEqDiff, Int.reduceNeg, ↓reduceIte]
  repeat' (first
   | exact af_ _ _
   | (refine ad_ ?_; simp [bk_, *]; done)
   | simp (disch := omega) only [go_sem, Nat.reduceEqDiff, ↓reduceIte]
   | (refine aa_.call (gV_ x.Value rfl) ?_)
   | (refine aa_.q (gV_ x.Value rfl) ?_)
   | ((first | (apply aW_; assumption) | (apply aX_; assumption) | (apply bb_; assumption) | (apply ba_; assumption)); intro hb; try simp only [hb])
   | ((first | (apply aM_; assumption) | (apply aO_; assumption) | (apply aR_; assumption) | (apply aS_; assumption)); intro hb; try simp only [hb])
   | ((first | apply aC_ | apply aG_ | apply an_ | apply ar_) <;> intro hb <;> (try simp only [hb]) <;> (first | have hp := a5_ hb | have hp := a4_ hb | have hp := a6_ hb | have hp := a7_ hb | skip)))
 simp (disch := omega) only [k1, k4, k5, k6, k2, go_sem, Nat.reduceEqDiff, Int.reduceNeg, ↓reduceIte]
 repeat' (first
  | exact af_ _ _
  | (refine ad_ ?_; simp [bk_, *]; done)
  | simp (disch := omega) only [go_sem, Nat.reduceEqDiff, ↓reduceIte]
  | ((first | (apply aW_; assumption) | (apply aX_; assumption) | (apply bb_; assumption) | (apply ba_; assumption)); intro hb; try simp only [hb])
  | ((first | (apply aM_; assumption) | (apply aO_; assumption) | (apply aR_; assumption) | (apply aS_; assumption)); intro hb; try simp only [hb])
  | ((first | apply aC_ | apply aG_ | apply an_ | apply ar_) <;> intro hb <;> (try simp only [hb]) <;> (first | have hp := a5_ hb | have hp := a4_ hb | have hp := a6_ hb | have hp := a7_ hb | skip)))
theorem eo_ (s : ByteArray) (hs : s.size ≤ 1048576) (h : List Row) : aa_ Tryz.prog 176 [.val (.string s)] h (.val (.bool (b8_ s.data.toList))) := by
 have := ig_ s.data.toList (by rw [fe_]; omega) h
 rwa [eq_] at this
theorem ft_ (s : ByteArray) (hs : s.size ≤ 1048576) (h : List Row) : aa_ Tryz.prog 177 [.val (.string s)] h (.val (.int .i64 (b1_ s.data.toList))) := by
 have := hD_ s.data.toList (by rw [fe_]; omega) h
 rwa [eq_] at this
theorem nV_ (q : Bool) (a b : ByteArray) : bl_ .lss q (.val (.string a)) (.val (.string b)) = some (.val (.bool (Op.bytesLess a.data.toList b.data.toList))) := by
 rw [p3_, ej_, ej_]
theorem yv_ (q : Bool) (a b : ByteArray) : bl_ .gtr q (.val (.string a)) (.val (.string b)) = some (.val (.bool (Op.bytesLess b.data.toList a.data.toList))) := by
 have e : bl_ .gtr q (.val (.string a)) (.val (.string b)) = some (.val (.bool (!(Op.bytesLess a.toList b.toList || a.toList == b.toList)))) := rfl
 rw [e, ej_, ej_]
 have : (!(Op.bytesLess a.data.toList b.data.toList || a.data.toList == b.data.toList)) = Op.bytesLess b.data.toList a.data.toList := by
  by_cases h1 : Op.bytesLess a.data.toList b.data.toList = true
  ·rw [h1, mM_ _ _ h1]; rfl
  ·by_cases h2 : a.data.toList = b.data.toList
   ·rw [h2, eW_]; simp
   ·have h3 : (a.data.toList == b.data.toList) = false := by simpa using h2
    have h1' : Op.bytesLess a.data.toList b.data.toList = false := by simpa using h1
    rw [h1', h3]
    by_cases h4 : Op.bytesLess b.data.toList a.data.toList = true
    ·rw [h4]; rfl
    ·exact absurd (hK_ _ _ h1' (by simpa using h4)) h2
 rw [this]
def BI_ : LC :=
 .q [.o [.f 2], .o [.m 3 0, .m 4 0, .bb 5 .neq false 3 4, .m 2 5], .ret]
def xu_ : LF := ⟨1, 6, BI_, [.tmp 2]⟩
theorem zR_ : au_ Tryz.prog Tryz.f155 xu_ := ah_
theorem gQ_ (s : ByteArray)  (h : List Row) : aa_ Tryz.prog 155 [.val (.string s)] h (.val (.bool false)) := by
 refine ak_ mixed Tryz.func155 zR_ rfl rfl ?_ h
 simp (disch := omega) only [xu_, BI_, go_sem, Nat.reduceEqDiff, reduceCtorEq, ↓reduceIte]
 repeat' (first
  | exact af_ _ _
  | simp (disch := omega) only [go_sem, Nat.reduceEqDiff, Nat.reduceAdd, Nat.reduceLeDiff, reduceCtorEq, Int.reduceLT, Int.reduceLE, Int.reduceNeg, Int.reduceSub, Int.reduceAdd, Int.reduceToNat, ↓reduceIte]
  | ((first | (apply aM_; assumption) | (apply aO_; assumption) | (apply aR_; assumption) | (apply aS_; assumption)); intro hb; try simp only [hb])
  | ((first | apply an_ | apply ar_) <;> intro hb <;> (try simp only [hb]) <;> (first | have hp := a5_ hb | have hp := a4_ hb | have hp := a6_ hb | have hp := a7_ hb | skip)))
def zm_ : LC :=
 .q [.o [.f 2], .o [.m 3 0, .m 4 0, .bb 5 .neq false 3 4, .m 2 5], .ret]
def wu_ : LF := ⟨1, 6, zm_, [.tmp 2]⟩
theorem y7_ : au_ Tryz.prog Tryz.f193 wu_ := ah_
theorem hr_ (s : Int)  (h : List Row) : aa_ Tryz.prog 193 [.val (.int .i64 s)] h (.val (.bool false)) := by
 refine ak_ mixed Tryz.func193 y7_ rfl rfl ?_ h
 simp (disch := omega) only [wu_, zm_, go_sem, Nat.reduceEqDiff, reduceCtorEq, ↓reduceIte]
 repeat' (first
  | exact af_ _ _
  | simp (disch := omega) only [go_sem, Nat.reduceEqDiff, Nat.reduceAdd, Nat.reduceLeDiff, reduceCtorEq, Int.reduceLT, Int.reduceLE, Int.reduceNeg, Int.reduceSub, Int.reduceAdd, Int.reduceToNat, ↓reduceIte]
  | ((first | (apply aM_; assumption) | (apply aO_; assumption) | (apply aR_; assumption) | (apply aS_; assumption)); intro hb; try simp only [hb])
  | ((first | apply an_ | apply ar_) <;> intro hb <;> (try simp only [hb]) <;> (first | have hp := a5_ hb | have hp := a4_ hb | have hp := a6_ hb | have hp := a7_ hb | skip)))
def Cw_ : LC :=
 .q [.o [.ki 4 0], .o [.m 7 0, .c1 8 193 7, .m 5 8], .o [.m 9 1, .c1 10 193 9, .m 6 10], .q [.o [.m 11 5], .k 11 (.q [.q [.o [.m 12 6], .k 12 (.q [.o [.ki 4 0], .ret]) .skip], .o [.s 4 (.mov (.const (.int .i64 (-1))))],
 .ret]) .skip], .q [.o [.m 13 6], .k 13 (.q [.o [.ki 4 1], .ret]) .skip], .q [.o [.m 14 0, .m 15 1, .bb 16 .lss false 14 15], .k 16 (.q [.o [.s 4 (.mov (.const (.int .i64 (-1))))], .ret]) .skip], .q [.o [.m 17 0, .m 18 1,
 .bb 19 .gtr false 17 18], .k 19 (.q [.o [.ki 4 1], .ret]) .skip], .o [.ki 4 0], .ret]
def wh_ : LF := ⟨2, 20, Cw_, [.tmp 4]⟩
theorem Ae_ : au_ Tryz.prog Tryz.f180 wh_ := ah_
theorem gD_ (a b : Int)  (h : List Row) : aa_ Tryz.prog 180 [.val (.int .i64 a), .val (.int .i64 b)] h (.val (.int .i64 (kC_ a b))) := by
 refine ak_ mixed Tryz.func180 Ae_ rfl rfl ?_ h
 simp (disch := omega) only [wh_, Cw_, go_sem, reduceCtorEq, Int.reduceNeg, ↓reduceIte]
 repeat' (first
  | exact af_ _ _
  | (refine aL_ ?_; simp only [decide_eq_true_eq, decide_eq_false_iff_not] at *; unfold kC_; (repeat' split) <;> omega)
  | simp (disch := omega) only [go_sem, Nat.reduceEqDiff, reduceCtorEq, Int.reduceNeg, ↓reduceIte]
  | (refine aa_.call (hr_ _ _) ?_)
  | (refine aa_.q (hr_ _ _) ?_)
  | ((first | (apply aM_; assumption) | (apply aO_; assumption) | (apply aR_; assumption) | (apply aS_; assumption)); intro hb; try simp only [hb])
  | ((first | apply an_ | apply ar_) <;> intro hb <;> (try simp only [hb]) <;> (first | have hp := a5_ hb | have hp := a4_ hb | have hp := a6_ hb | have hp := a7_ hb | skip)))
def Bf_ : LC :=
 .q [.o [.ki 4 0], .o [.m 7 0, .c1 8 155 7, .m 5 8], .o [.m 9 1, .c1 10 155 9, .m 6 10], .q [.o [.m 11 5], .k 11 (.q [.q [.o [.m 12 6], .k 12 (.q [.o [.ki 4 0], .ret]) .skip], .o [.s 4 (.mov (.const (.int .i64 (-1))))],
 .ret]) .skip], .q [.o [.m 13 6], .k 13 (.q [.o [.ki 4 1], .ret]) .skip], .q [.o [.m 14 0, .m 15 1, .bb 16 .lss false 14 15], .k 16 (.q [.o [.s 4 (.mov (.const (.int .i64 (-1))))], .ret]) .skip], .q [.o [.m 17 0, .m 18 1,
 .bb 19 .gtr false 17 18], .k 19 (.q [.o [.ki 4 1], .ret]) .skip], .o [.ki 4 0], .ret]
def wZ_ : LF := ⟨2, 20, Bf_, [.tmp 4]⟩
theorem Ba_ : au_ Tryz.prog Tryz.f123 wZ_ := ah_
theorem eu_ (a b : ByteArray)  (h : List Row) : aa_ Tryz.prog 123 [.val (.string a), .val (.string b)] h (.val (.int .i64 (jk_ a.data.toList b.data.toList))) := by
 refine ak_ mixed Tryz.func123 Ba_ rfl rfl ?_ h
 simp (disch := omega) only [wZ_, Bf_, go_sem, reduceCtorEq, Int.reduceNeg, ↓reduceIte]
 repeat' (first
  | exact af_ _ _
  | (refine aL_ ?_; simp only [jk_, *]; first | rfl | (simp; done))
  | simp (disch := omega) only [nV_, yv_, go_sem, Nat.reduceEqDiff, reduceCtorEq, Int.reduceNeg, ↓reduceIte]
  | (refine aa_.call (gQ_ _ _) ?_)
  | (refine aa_.q (gQ_ _ _) ?_)
  | ((first | (apply aW_; assumption) | (apply aX_; assumption) | (apply bb_; assumption) | (apply ba_; assumption)); intro hb; try simp only [hb])
  | ((first | (apply aM_; assumption) | (apply aO_; assumption) | (apply aR_; assumption) | (apply aS_; assumption)); intro hb; try simp only [hb])
  | ((first | apply aC_ | apply aG_ | apply an_ | apply ar_) <;> intro hb <;> (try simp only [hb]) <;> (first | have hp := a5_ hb | have hp := a4_ hb | have hp := a6_ hb | have hp := a7_ hb | skip)))
def z6_ : LC :=
 .q [.o [.ki 4 0], .o [.m 7 0, .c1 8 179 7, .m 9 1, .c1 10 179 9, .m 5 8, .m 6 10], .block 0 (.q [.o [.m 12 5, .m 13 12, .gm 14 13 true 6, .pf 15 13 14, .m 11 15], .k 11 (.q [.o [.m 16 0, .c1 17 181 16, .m 18 1, .c1 19
 181 18, .c2 20 180 17 19, .m 4 20], .ret]) (.q [.o [.m 22 5, .m 21 22], .k 21 (.q [.o [.s 4 (.mov (.const (.int .i64 (-1))))], .ret]) (.q [.o [.m 24 6, .m 23 24], .k 23 (.q [.o [.ki 4 1], .ret]) .skip])])]), .o [.m 25 0,
 .m 26 1, .c2 27 123 25 26, .m 4 27], .ret]
def xF_ : LF := ⟨2, 28, z6_, [.tmp 4]⟩
theorem Cb_ : au_ Tryz.prog Tryz.f157 xF_ := ah_
theorem e3_ (a b : ByteArray) (ha : a.size ≤ 1048576) (hbb : b.size ≤ 1048576) (h : List Row) : aa_ Tryz.prog 157 [.val (.string a), .val (.string b)] h (.val (.int .i64 (dm_ a.data.toList b.data.toList))) := by
 refine ak_ mixed Tryz.func157 Cb_ rfl rfl ?_ h
 simp (disch := omega) only [xF_, z6_, go_sem, reduceCtorEq, Int.reduceNeg, ↓reduceIte]
 repeat' (first
  | exact af_ _ _
  | (refine aL_ ?_; simp only [dm_, *]; first | rfl | (simp; done))
  | simp (disch := omega) only [go_sem, Nat.reduceEqDiff, reduceCtorEq, Int.reduceNeg, ↓reduceIte]
  | (refine aa_.call (dW_ _ ha _) ?_)
  | (refine aa_.q (dW_ _ ha _) ?_)
  | (refine aa_.call (dW_ _ hbb _) ?_)
  | (refine aa_.q (dW_ _ hbb _) ?_)
  | (refine aa_.call (eD_ _ ha _) ?_)
  | (refine aa_.q (eD_ _ ha _) ?_)
  | (refine aa_.call (eD_ _ hbb _) ?_)
  | (refine aa_.q (eD_ _ hbb _) ?_)
  | (refine aa_.call (gD_ _ _ _) ?_)
  | (refine aa_.q (gD_ _ _ _) ?_)
  | (refine aa_.call (eu_ _ _ _) ?_)
  | (refine aa_.q (eu_ _ _ _) ?_)
  | ((first | (apply aW_; assumption) | (apply aX_; assumption) | (apply bb_; assumption) | (apply ba_; assumption)); intro hb; try simp only [hb])
  | ((first | (apply aM_; assumption) | (apply aO_; assumption) | (apply aR_; assumption) | (apply aS_; assumption)); intro hb; try simp only [hb])
  | ((first | apply aC_ | apply aG_ | apply an_ | apply ar_) <;> intro hb <;> (try simp only [hb]) <;> (first | have hp := a5_ hb | have hp := a4_ hb | have hp := a6_ hb | have hp := a7_ hb | skip)))
def zW_ : LC :=
 .q [.o [.f 4], .o [.m 7 0, .c1 8 176 7, .m 5 8], .o [.m 9 1, .c1 10 176 9, .m 6 10], .q [.o [.m 11 5, .m 12 11, .gm 13 12 true 6, .pf 14 12 13], .k 14 (.q [.o [.m 15 0, .c1 16 177 15, .m 17 1, .c1 18 177 17, .bb 19 .lss
 false 16 18, .m 4 19], .ret]) .skip], .q [.o [.m 20 5, .m 21 6, .bb 22 .neq true 20 21], .k 22 (.q [.o [.m 23 5, .m 4 23], .ret]) .skip], .o [.m 24 0, .m 25 1, .bb 26 .lss false 24 25, .m 4 26], .ret]
def wR_ : LF := ⟨2, 27, zW_, [.tmp 4]⟩
theorem yY_ : au_ Tryz.prog Tryz.f172 wR_ := ah_
theorem fM_ (a b : ByteArray) (ha : a.size ≤ 1048576) (hbb : b.size ≤ 1048576) (h : List Row) : aa_ Tryz.prog 172 [.val (.string a), .val (.string b)] h (.val (.bool (before a.data.toList b.data.toList))) := by
 refine ak_ mixed Tryz.func172 yY_ rfl rfl ?_ h
 simp (disch := omega) only [wR_, zW_, go_sem, reduceCtorEq, ↓reduceIte]
 repeat' (first
  | exact af_ _ _
  | (refine ad_ ?_; simp only [before, *]; first | rfl | (simp; done))
  | (refine ad_ ?_; simp_all [before]; done)
  | simp (disch := omega) only [nV_, pb_, go_sem, Nat.reduceEqDiff, reduceCtorEq, ↓reduceIte]
  | (refine aa_.call (eo_ _ ha _) ?_)
  | (refine aa_.q (eo_ _ ha _) ?_)
  | (refine aa_.call (eo_ _ hbb _) ?_)
  | (refine aa_.q (eo_ _ hbb _) ?_)
  | (refine aa_.call (ft_ _ ha _) ?_)
  | (refine aa_.q (ft_ _ ha _) ?_)
  | (refine aa_.call (ft_ _ hbb _) ?_)
  | (refine aa_.q (ft_ _ hbb _) ?_)
  | ((first | (apply aW_; assumption) | (apply aX_; assumption) | (apply bb_; assumption) | (apply ba_; assumption)); intro hb; try simp only [hb])
  | ((first | (apply aM_; assumption) | (apply aO_; assumption) | (apply aR_; assumption) | (apply aS_; assumption)); intro hb; try simp only [hb])
  | ((first | apply aC_ | apply aG_ | apply an_ | apply ar_) <;> intro hb <;> (try simp only [hb]) <;> (first | have hp := a5_ hb | have hp := a4_ hb | have hp := a6_ hb | have hp := a7_ hb | skip)))
def BM_ : LC :=
 .q [.o [.f 4], .o [.m 5 0, .m 6 1, .c2 7 172 5 6, .m 4 7], .ret]
def xm_ : LF := ⟨2, 8, BM_, [.tmp 4]⟩
theorem Ci_ : au_ Tryz.prog Tryz.f152 xm_ := ah_
theorem dH_ (a b : ByteArray) (ha : a.size ≤ 1048576) (hbb : b.size ≤ 1048576) (h : List Row) : aa_ Tryz.prog 152 [.val (.string a), .val (.string b)] h (.val (.bool (before a.data.toList b.data.toList))) := by
 refine ak_ mixed Tryz.func152 Ci_ rfl rfl ?_ h
 simp (disch := omega) only [xm_, BM_, go_sem, Nat.reduceEqDiff, reduceCtorEq, ↓reduceIte]
 repeat' (first
  | exact af_ _ _
  | simp (disch := omega) only [go_sem, ↓reduceIte]
  | (refine aa_.call (fM_ _ _ ha hbb _) ?_)
  | (refine aa_.q (fM_ _ _ ha hbb _) ?_)
  | ((first | (apply aM_; assumption) | (apply aO_; assumption) | (apply aR_; assumption) | (apply aS_; assumption)); intro hb; try simp only [hb])
  | ((first | apply an_ | apply ar_) <;> intro hb <;> (try simp only [hb]) <;> (first | have hp := a5_ hb | have hp := a4_ hb | have hp := a6_ hb | have hp := a7_ hb | skip)))
def gv_ (c : ByteArray → ByteArray → Int) : List ByteArray → List ByteArray → Int
 | [], [] => 0
 | [], _ :: _ => -1
 | _ :: _, [] => 1
 | x :: xs, y :: ys => if c x y = 0 then gv_ c xs ys else c x y
theorem ta_ (c : ByteArray → ByteArray → Int) (xs ys : List ByteArray) (k : Nat) (h1 : k < xs.length) (h2 : k < ys.length) : gv_ c (xs.drop k) (ys.drop k) = if c xs[k] ys[k] = 0 then gv_ c (xs.drop (k + 1)) (ys.drop (k + 1)) else c xs[k] ys[k] := by
 rw [drop_eq_getElem_cons h1, drop_eq_getElem_cons h2]; rfl
theorem rX_ (c : ByteArray → ByteArray → Int) (xs ys : List ByteArray) (k : Nat) (h1 : k < xs.length) (h2 : ys.length ≤ k) : gv_ c (xs.drop k) (ys.drop k) = 1 := by
 rw [drop_eq_getElem_cons h1, drop_eq_nil_of_le h2]; rfl
theorem q2_ (c : ByteArray → ByteArray → Int) (xs ys : List ByteArray) (k : Nat) (h1 : xs.length ≤ k) (h2 : k < ys.length) : gv_ c (xs.drop k) (ys.drop k) = -1 := by
 rw [drop_eq_nil_of_le h1, drop_eq_getElem_cons h2]; rfl
theorem tn_ (c : ByteArray → ByteArray → Int) (xs ys : List ByteArray) (k : Nat) (h1 : xs.length ≤ k) (h2 : ys.length ≤ k) : gv_ c (xs.drop k) (ys.drop k) = 0 := by
 rw [drop_eq_nil_of_le h1, drop_eq_nil_of_le h2]; rfl
def zj_ : LC :=
 .q [.o [.ki 6 0], .q [.o [.m 11 0, .ll 12 11, .ki 13 0], .block 0 (.loop (.q [.o [.bb 14 .lss false 13 12], .k 14 .skip (.exit 0), .block 1 (.q [.o [.m 15 13, .ia 16 1 11 13, .ln 17 16, .m 7 15, .m 8 17], .q [.o [.m 18
 7, .m 19 1, .ll 20 19, .bb 21 .geq false 18 20], .k 21 (.q [.o [.ki 6 1], .ret]) .skip], .o [.m 22 1, .m 23 7, .ia 24 1 22 23, .ln 25 24, .m 9 25], .o [.m 26 2, .m 27 8, .m 28 9, .s 29 (.callv (.tmp 26) [.tmp 27, .tmp
 28]), .m 10 29], .o [.m 30 10, .bk 31 .neq false 30 0], .k 31 (.q [.o [.m 32 10, .m 6 32], .ret]) .skip]), .o [.bk 33 .add false 13 1, .m 13 33]]))], .q [.o [.m 34 0, .ll 35 34, .m 36 1, .ll 37 36, .bb 38 .lss false 35
 37], .k 38 (.q [.o [.s 6 (.mov (.const (.int .i64 (-1))))], .ret]) .skip], .o [.ki 6 0], .ret]
def wK_ : LF := ⟨3, 39, zj_, [.tmp 6]⟩
theorem Cn_ : au_ Tryz.prog Tryz.f156 wK_ := ah_
theorem ev_ (xs ys : List ByteArray) (c : ByteArray → ByteArray → Int) (g : Nat) (hx : xs.length ≤ 1048576) (hy : ys.length ≤ 1048576) (hc : cD_ Tryz.prog g = true) (hp : ∀ x ∈ xs, ∀ y ∈ ys, ∀ h, aa_ Tryz.prog g [.val (.string x), .val (.string y)] h (.val (.int .i64 (c x y)))) (h : List Row) :
 aa_ Tryz.prog 156 [.list 0 1 (xs.map aj_), .list 0 1 (ys.map aj_), .fn g [] []] h (.val (.int .i64 (gv_ c xs ys))) := by
 refine ak_ mixed Tryz.func156 Cn_ rfl rfl ?_ h
 simp (disch := omega) only [wK_, zj_, go_sem, reduceCtorEq, Int.reduceNeg, ↓reduceIte]
 refine aQ_ (fun n t h => ∃ k : Nat, t 0 = .list 0 1 (xs.map aj_) ∧ t 1 = .list 0 1 (ys.map aj_) ∧ t 2 = .fn g [] [] ∧ t 11 = .list 0 1 (xs.map aj_) ∧ t 12 = .val (.int .i64 xs.length) ∧ t 13 = .val (.int .i64 k) ∧ n = xs.length - k ∧ k ≤ xs.length ∧ k ≤ ys.length ∧ gv_ c xs ys = gv_ c (xs.drop k) (ys.drop k)) xs.length ?_ ?_
 ·exact ⟨0, rfl, rfl, rfl, rfl, rfl, rfl, rfl, Nat.zero_le _, Nat.zero_le _, rfl⟩
 ·rintro J hJ n t h ⟨k, t0, t1, t2, t11, t12, t13, rfl, hk, hk2, hS⟩
  by_cases hlt : k < xs.length
  ·by_cases hlt2 : k < ys.length
   ·have hge : ¬ ((ys.length : Int) ≤ k) := by omega
    rw [ta_ c xs ys k hlt hlt2] at hS
    simp (disch := omega) only [t1, t2, t11, t12, t13, hlt, hge, hc, aj_, go_sem, Nat.reduceEqDiff, Int.reduceNeg, ↓reduceIte]
    refine aa_.call (hp xs[k] (getElem_mem hlt) ys[k] (getElem_mem hlt2) _) ?_
    by_cases e : c xs[k] ys[k] = 0
    ·simp (disch := omega) only [t13, e, go_sem, Nat.reduceEqDiff, Int.reduceNeg, ↓reduceIte]
     exact ⟨xs.length - (k + 1), by omega, hJ _ _ _ ⟨k + 1, by simp [upd, t0], by simp [upd, t1], by simp [upd, t2], by simp [upd, t11], by simp [upd, t12], by simp [upd], rfl, by omega, by omega, by rw [hS, if_pos e]⟩⟩
    ·simp (disch := omega) only [e, go_sem, Nat.reduceEqDiff, Int.reduceNeg, ↓reduceIte]
     exact aL_ (by rw [hS, if_neg e])
   ·have hge : ((ys.length : Int) ≤ k) := by omega
    simp (disch := omega) only [t1, t11, t12, t13, hlt, hge, aj_, go_sem, Nat.reduceEqDiff, Int.reduceNeg, ↓reduceIte]
    exact aL_ (by rw [hS, rX_ c xs ys k hlt (by omega)])
  ·by_cases hlt2 : k < ys.length
   ·have hl : (xs.length : Int) < ys.length := by omega
    simp (disch := omega) only [t0, t1, t12, t13, hlt, hl, go_sem, Nat.reduceEqDiff, reduceCtorEq, Int.reduceNeg, ↓reduceIte]
    exact aL_ (by rw [hS, q2_ c xs ys k (by omega) hlt2])
   ·have hl : ¬ ((xs.length : Int) < ys.length) := by omega
    simp (disch := omega) only [t0, t1, t12, t13, hlt, hl, go_sem, Nat.reduceEqDiff, reduceCtorEq, Int.reduceNeg, ↓reduceIte]
    exact aL_ (by rw [hS, tn_ c xs ys k (by omega) (by omega)])
theorem kn_ : ∀ xs ys : List ByteArray, gv_ (fun a b => dm_ a.data.toList b.data.toList) xs ys = fO_ (bss xs) (bss ys)
 | [], [] => rfl
 | [], _ :: _ => rfl
 | _ :: _, [] => rfl
 | x :: xs, y :: ys => by simp only [gv_, bss, map_cons, fO_]; rw [kn_ xs ys]
theorem eV_ {xs : List ByteArray} {b : Nat} (h : aq_ ByteArray.size xs ≤ b) {s : ByteArray} (hs : s ∈ xs) : s.size ≤ b := by
 have := cb_ (f := ByteArray.size) hs; omega
def z3_ : LC :=
 .q [.o [.ki 4 0], .o [.m 5 0, .m 6 1, .s 7 (.call 156 [.tmp 5, .tmp 6, .func 157]), .m 4 7], .ret]
def wY_ : LF := ⟨2, 8, z3_, [.tmp 4]⟩
theorem Bp_ : au_ Tryz.prog Tryz.f124 wY_ := ah_
theorem eO_ (a b : List ByteArray) (ha : aq_ ByteArray.size a ≤ 1048576) (hb : aq_ ByteArray.size b ≤ 1048576) (h : List Row) : aa_ Tryz.prog 124 [.list 0 1 (a.map aj_), .list 0 1 (b.map aj_)] h (.val (.int .i64 (fO_ (bss a) (bss b)))) := by
 refine ak_ mixed Tryz.func124 Bp_ rfl rfl ?_ h
 simp (disch := omega) only [wY_, z3_, go_sem, Nat.reduceEqDiff, reduceCtorEq, ↓reduceIte]
 repeat' (first
  | exact af_ _ _
  | exact aL_ (kn_ a b)
  | simp (disch := omega) only [go_sem, ↓reduceIte]
  | (refine aa_.call (ev_ a b (fun a b => dm_ a.data.toList b.data.toList) 157 (aA_ ha) (aA_ hb) (by kernel_rfl) (fun x hx y hy h => e3_ x y (eV_ ha hx) (eV_ hb hy) h) _) ?_)
  | (refine aa_.q (ev_ a b (fun a b => dm_ a.data.toList b.data.toList) 157 (aA_ ha) (aA_ hb) (by kernel_rfl) (fun x hx y hy h => e3_ x y (eV_ ha hx) (eV_ hb hy) h) _) ?_)
  | ((first | (apply aM_; assumption) | (apply aO_; assumption) | (apply aR_; assumption) | (apply aS_; assumption)); intro hb; try simp only [hb])
  | ((first | apply an_ | apply ar_) <;> intro hb <;> (try simp only [hb]) <;> (first | have hp := a5_ hb | have hp := a4_ hb | have hp := a6_ hb | have hp := a7_ hb | skip)))
def orL : List Int → Int
 | [] => 0
 | x :: xs => if x = 0 then orL xs else x
theorem uw_ (xs : List Int) (k : Nat) (h : k < xs.length) : orL (xs.drop k) = if xs[k] = 0 then orL (xs.drop (k + 1)) else xs[k] := by
 rw [drop_eq_getElem_cons h]; rfl
theorem yr_ (xs : List Int) (k : Nat) (h : xs.length ≤ k) : orL (xs.drop k) = 0 := by
 rw [drop_eq_nil_of_le h]; rfl
def A4_ : LC :=
 .q [.o [.ki 2 0], .o [.ki 3 0], .q [.o [.m 6 0, .ll 7 6, .ki 8 0], .block 0 (.loop (.q [.o [.bb 9 .lss false 8 7], .k 9 .skip (.exit 0), .block 1 (.q [.o [.ia 10 1 6 8, .ln 11 10, .m 5 11], .o [.m 12 5, .m 13 3, .bb 14
 .neq false 12 13], .k 14 (.q [.o [.m 15 5, .m 2 15], .ret]) .skip]), .o [.bk 16 .add false 8 1, .m 8 16]]))], .o [.m 17 3, .m 2 17], .ret]
def wz_ : LF := ⟨1, 18, A4_, [.tmp 2]⟩
theorem yJ_ : au_ Tryz.prog Tryz.f122 wz_ := ah_
theorem oC_ (xs : List Int) (hx : xs.length ≤ 1048576) (h : List Row) : aa_ Tryz.prog 122 [.list 0 1 (xs.map fun x => [.val (.int .i64 x)])] h (.val (.int .i64 (orL xs))) := by
 refine ak_ mixed Tryz.func122 yJ_ rfl rfl ?_ h
 simp (disch := omega) only [wz_, A4_, go_sem, reduceCtorEq, ↓reduceIte]
 refine aQ_ (fun n t h => ∃ k : Nat, t 3 = .val (.int .i64 0) ∧ t 6 = .list 0 1 (xs.map fun x => [.val (.int .i64 x)]) ∧ t 7 = .val (.int .i64 xs.length) ∧ t 8 = .val (.int .i64 k) ∧ n = xs.length - k ∧ k ≤ xs.length ∧ orL xs = orL (xs.drop k)) xs.length ?_ ?_
 ·exact ⟨0, rfl, rfl, rfl, rfl, rfl, Nat.zero_le _, rfl⟩
 ·rintro J hJ n t h ⟨k, t3, t6, t7, t8, rfl, hk, hS⟩
  by_cases hlt : k < xs.length
  ·rw [uw_ xs k hlt] at hS
   by_cases e : xs[k] = 0
   ·simp (disch := omega) only [t3, t6, t7, t8, hlt, e, go_sem, Nat.reduceEqDiff, ↓reduceIte]
    exact ⟨xs.length - (k + 1), by omega, hJ _ _ _ ⟨k + 1, by simp [upd, t3], by simp [upd, t6], by simp [upd, t7], by simp [upd], rfl, by omega, by rw [hS, if_pos e]⟩⟩
   ·simp (disch := omega) only [t3, t6, t7, t8, hlt, e, go_sem, Nat.reduceEqDiff, ↓reduceIte]
    exact aL_ (by rw [hS, if_neg e])
  ·simp (disch := omega) only [t3, t7, t8, hlt, go_sem, Nat.reduceEqDiff, ↓reduceIte]
   exact aL_ (by rw [hS, yr_ _ _ (by omega)])
theorem sS_ (a b : Int) (h : List Row) : aa_ Tryz.prog 122 [.list 0 1 [[.val (.int .i64 a)], [.val (.int .i64 b)]]] h (.val (.int .i64 (if a = 0 then b else a))) := by
 have := oC_ [a, b] (by simp) h
 have e : orL [a, b] = if a = 0 then b else a := by
  simp only [orL]; split
  ·split
   ·omega
   ·rfl
  ·rfl
 rwa [e] at this
theorem sC_ (a b : Int) (E : Tag) (l : Nat) (H : List Row) (K : AV → List Row → Prop) (hl : H[l]? = some ⟨E, 1, [[.val (.int .i64 a)], [.val (.int .i64 b)]]⟩) (hk : K (.val (.int .i64 (if a = 0 then b else a))) H) : callSem Tryz.prog 122 [.own l 2] H K :=
 pQ_ (rs := [.list 0 1 [[.val (.int .i64 a)], [.val (.int .i64 b)]]]) (fun h => sS_ a b h) (show aV_ H [.own l 2] _ from ⟨_, [], rfl, .inr ⟨2, [l], ⟨_, [[.val (.int .i64 a)], [.val (.int .i64 b)]], [], hl, rfl, by
  refine ⟨_, _, [], [], rfl, rfl, ⟨_, _, [], [], rfl, rfl, ⟨rfl, .inl rfl⟩, ⟨rfl, rfl⟩⟩, ⟨_, _, [], [], rfl, rfl, ⟨_, _, [], [], rfl, rfl, ⟨rfl, .inl rfl⟩, ⟨rfl, rfl⟩⟩, ⟨rfl, rfl⟩⟩⟩, rfl, rfl⟩⟩, rfl⟩) hk
def c89 : LC :=
 .q [.o [.ki 8 0], .o [.m 9 0, .m 10 2, .c2 11 123 9 10, .m 12 1, .m 13 3, .c2 14 124 12 13, .s 15 (.buildSlice 3 1 (.int .i64 0) 2 [(0, .tmp 11), (1, .tmp 14)]), .c1 16 122 15, .m 8 16], .ret]
def za_ : LF := ⟨4, 17, c89, [.tmp 8]⟩
theorem DW_ : au_ Tryz.prog Tryz.f89 za_ := ah_
theorem dQ_ (n : ByteArray) (s : List ByteArray) (o : ByteArray) (os : List ByteArray) (hs : aq_ ByteArray.size s ≤ 1048576) (hos : aq_ ByteArray.size os ≤ 1048576) (h : List Row) :
 aa_ Tryz.prog 89 [.val (.string n), .list 0 1 (s.map aj_), .val (.string o), .list 0 1 (os.map aj_)] h (.val (.int .i64 (g8_ n.data.toList (bss s) o.data.toList (bss os)))) := by
 refine ak_ mixed Tryz.func89 DW_ rfl rfl ?_ h
 simp (disch := omega) only [za_, c89, go_sem, Nat.reduceEqDiff, reduceCtorEq, ↓reduceIte]
 refine aa_.call (eu_ _ _ _) ?_
 simp (disch := omega) only [go_sem, Nat.reduceEqDiff, ↓reduceIte]
 refine aa_.call (eO_ _ _ hs hos _) ?_
 simp (disch := omega) only [go_sem, Nat.reduceEqDiff, ↓reduceIte]
 refine sC_ _ _ _ _ _ _ rfl ?_
 simp (disch := omega) only [go_sem, ↓reduceIte]
 exact aL_ rfl
def dZ_ (xs : List ByteArray) : ByteArray := xs.getLastD (txt [])
theorem gj_ (xs : List ByteArray) (h : xs.length - 1 < xs.length) : xs[xs.length - 1] = dZ_ xs := by
 have hne : xs ≠ [] := by intro e; subst e; simp at h
 rw [← getLast_eq_getElem hne, dZ_, getLastD_eq_getLast?, getLast?_eq_some_getLast hne]; rfl
def bY_ (xs : List ByteArray) : List ByteArray := xs.take (xs.length - 1)
def gL_ (xs : List ByteArray) : Bool := decide (0 < (xs.length : Int)) && (bq_ xs || (decide (dZ_ xs = txt []) && bq_ (bY_ xs)))
def c94 : LC :=
 .q [.o [.f 2], .o [.m 4 0, .ll 5 4, .m 3 5], .o [.m 6 3, .bk 7 .gtr false 6 0, .m 8 7, .gm 9 8 true 0, .gc 10 8 true 95 9, .gm 11 8 true 10, .gm 12 11 false 0, .gm 13 11 false 3, .g 14 11 false (.bin .sub false (.tmp 13)
 (.const (.int .i64 1))), .g 15 11 false (.indexAddr 1 (.tmp 12) (.tmp 14)), .gn 16 11 false 15, .g 17 11 false (.bin .eql false (.tmp 16) (.const (.string ⟨#[]⟩))), .gm 18 11 false 17, .gm 19 18 true 0, .gm 20 18 true 3,
 .g 21 18 true (.bin .sub false (.tmp 20) (.const (.int .i64 1))), .g 22 18 true (.sliceSl 1 (.tmp 19) none (some (.tmp 21))), .gc 23 18 true 95 22, .g 24 11 false (.pick (.tmp 18) (.tmp 23) (.const (.bool false))), .g 25
 8 true (.pick (.tmp 11) (.const (.bool true)) (.tmp 24)), .pf 26 8 25, .m 2 26], .ret]
def vU_ : LF := ⟨1, 27, c94, [.tmp 2]⟩
theorem DA_ : au_ Tryz.prog Tryz.f94 vU_ := ah_
theorem hE_ (xs : List ByteArray) (hx : xs.length ≤ 1048576) (h : List Row) : aa_ Tryz.prog 94 [.list 0 1 (xs.map aj_)] h (.val (.bool (gL_ xs))) := by
 refine ak_ mixed Tryz.func94 DA_ rfl rfl ?_ h
 by_cases h0 : xs.length = 0
 ·have h0' : ((0 : Int) < xs.length) = False := eq_false (by omega)
  simp (disch := omega) only [vU_, c94, h0', go_sem, Nat.reduceEqDiff, reduceCtorEq, ↓reduceIte]
  exact ad_ (by simp [gL_, h0])
 ·have h0' : ((0 : Int) < xs.length) = True := eq_true (by omega)
  have hsub : ((xs.length : Int) - 1) = ((xs.length - 1 : Nat) : Int) := by omega
  have hlt : xs.length - 1 < xs.length := by omega
  have hfr : xs.take (xs.length - 1) = bY_ xs := rfl
  have hfl : (bY_ xs).length ≤ 1048576 := by rw [bY_, length_take]; omega
  have hw : IntKind.i64.wrap ((xs.length : Int) - 1) = ((xs.length - 1 : Nat) : Int) := by rw [as_ (n := (xs.length : Int) - 1) (by omega) (by omega)]; omega
  simp (disch := omega) only [vU_, c94, h0', go_sem, Nat.reduceEqDiff, reduceCtorEq, ↓reduceIte]
  repeat' (first
   | exact af_ _ _
   | (refine ad_ ?_; simp only [gL_, *, Bool.true_and, Bool.and_false, Bool.false_and, Bool.true_or, Bool.false_or, decide_true, Bool.and_self, Bool.or_self]; done)
   | simp (disch := omega) only [hw, fi_, hfr, gj_, aj_, go_sem, Nat.reduceEqDiff, reduceCtorEq, ↓reduceIte]
   | (refine aa_.call (cc_ _ hx _) ?_)
   | (refine aa_.q (cc_ _ hx _) ?_)
   | (refine aa_.call (cc_ _ hfl _) ?_)
   | (refine aa_.q (cc_ _ hfl _) ?_)
   | ((first | (apply aW_; assumption) | (apply aX_; assumption) | (apply bb_; assumption) | (apply ba_; assumption)); intro hb; try simp only [hb])
   | ((first | (apply aM_; assumption) | (apply aO_; assumption) | (apply aR_; assumption) | (apply aS_; assumption)); intro hb; try simp only [hb])
   | ((first | apply aC_ | apply aG_ | apply an_ | apply ar_) <;> intro hb <;> (try simp only [hb]) <;> (first | have hp := a5_ hb | have hp := a4_ hb | have hp := a6_ hb | have hp := a7_ hb | skip)))
def bm_ (x : ab_) : Bool := b0_ x.Name && bk_ x && (if x.Kind = 5 then decide ((x.Subs.length : Int) ≤ 4) && gL_ x.Subs else bq_ x.Subs)
def c45 : LC :=
 .q [.o [.bx 1 44 0, .f 2], .q [.o [.fa 3 1 1, .ln 4 3, .c1 5 92 4, .nt 6 5, .m 7 6, .gl 8 7 false 5 1, .gc 9 7 false 93 8, .gu 10 7 false 9, .pt 11 7 10], .k 11 (.q [.o [.f 2], .ret]) .skip], .q [.o [.fa 12 0 1, .ln 13
 12, .bk 14 .eql false 13 5], .k 14 (.q [.o [.fa 15 2 1, .ln 16 15, .ll 17 16, .bk 18 .leq false 17 4, .m 19 18, .gf 20 19 true 2 1, .gn 21 19 true 20, .gc 22 19 true 94 21, .pf 23 19 22, .m 2 23], .ret]) .skip], .o [.fa
 24 2 1, .ln 25 24, .c1 26 95 25, .m 2 26], .ret]
def vZ_ : LF := ⟨1, 27, c45, [.tmp 2]⟩
theorem DR_ : au_ Tryz.prog Tryz.f45 vZ_ := ah_
theorem gy_ (x : ab_) (hx : ab_.sz x ≤ 1048576) (h : List Row) : aa_ Tryz.prog 45 [.agg (ab_.cells x)] h (.val (.bool (bm_ x))) := by
 refine ak_ mixed Tryz.func45 DR_ rfl rfl ?_ h
 have h1 := ab_.sz_Name hx
 have h2 := aA_ (ab_.sz_Subs hx)
 by_cases k5 : x.Kind = 5
 ·simp (disch := omega) only [vZ_, c45, ab_.cells, k5, go_sem, Nat.reduceEqDiff, Nat.reduceAdd, ↓reduceIte]
  have hN : bm_ x = (b0_ x.Name && bk_ x && (decide ((x.Subs.length : Int) ≤ 4) && gL_ x.Subs)) := by rw [bm_, if_pos k5]
  have hR := fun h => gi_ x hx h
  simp only [ab_.cells, k5] at hR
  repeat' (first
   | exact af_ _ _
   | (refine ad_ ?_; rw [hN]; simp only [*, Bool.true_and, Bool.and_false, Bool.false_and, decide_true, decide_false, Bool.and_self]; done)
   | simp (disch := omega) only [go_sem, Nat.reduceEqDiff, Nat.reduceAdd, ↓reduceIte]
   | (refine aa_.call (dK_ _ h1 _) ?_)
   | (refine aa_.q (dK_ _ h1 _) ?_)
   | (refine aa_.call (hR _) ?_)
   | (refine aa_.q (hR _) ?_)
   | (refine aa_.call (hE_ _ h2 _) ?_)
   | (refine aa_.q (hE_ _ h2 _) ?_)
   | ((first | (apply aW_; assumption) | (apply aX_; assumption) | (apply bb_; assumption) | (apply ba_; assumption)); intro hb; try simp only [hb])
   | ((first | (apply aM_; assumption) | (apply aO_; assumption) | (apply aR_; assumption) | (apply aS_; assumption)); intro hb; try simp only [hb])
   | ((first | apply aC_ | apply aG_ | apply an_ | apply ar_) <;> intro hb <;> (try simp only [hb]) <;> (first | have hp := a5_ hb | have hp := a4_ hb | have hp := a6_ hb | have hp := a7_ hb | skip)))
 ·have hN : bm_ x = (b0_ x.Name && bk_ x && bq_ x.Subs) := by rw [bm_, if_neg k5]
  simp (disch := omega) only [vZ_, c45, ab_.cells, go_sem, Nat.reduceEqDiff, Nat.reduceAdd, ↓reduceIte]
  repeat' (first
   | exact af_ _ _
   | (refine ad_ ?_; rw [hN]; simp only [*, Bool.true_and, Bool.and_false, Bool.false_and, Bool.and_self]; done)
   | simp (disch := omega) only [k5, go_sem, Nat.reduceEqDiff, Nat.reduceAdd, ↓reduceIte]
   | (refine aa_.call (dK_ _ h1 _) ?_)
   | (refine aa_.q (dK_ _ h1 _) ?_)
   | (refine aa_.call (gi_ x hx _) ?_)
   | (refine aa_.q (gi_ x hx _) ?_)
   | (refine aa_.call (cc_ _ h2 _) ?_)
   | (refine aa_.q (cc_ _ h2 _) ?_)
   | ((first | (apply aW_; assumption) | (apply aX_; assumption) | (apply bb_; assumption) | (apply ba_; assumption)); intro hb; try simp only [hb])
   | ((first | (apply aM_; assumption) | (apply aO_; assumption) | (apply aR_; assumption) | (apply aS_; assumption)); intro hb; try simp only [hb])
   | ((first | apply aC_ | apply aG_ | apply an_ | apply ar_) <;> intro hb <;> (try simp only [hb]) <;> (first | have hp := a5_ hb | have hp := a4_ hb | have hp := a6_ hb | have hp := a7_ hb | skip)))
def bP_ (x : ab_) : Bool := decide (x.Kind = 1) || decide (x.Kind = 4) || decide (x.Kind = 5) || decide (x.Kind = 6)
def bI_ (x : ab_) : Bool := decide (x.Kind = 2) || decide (x.Kind = 3)
def c33 : LC :=
 .q [.o [.bx 1 44 0, .f 2], .o [.fa 3 0 1, .ln 4 3, .bk 5 .eql false 4 1, .m 6 5, .gf 7 6 false 0 1, .gn 8 6 false 7, .g 9 6 false (.bin .eql false (.tmp 8) (.const (.int .i64 4))), .pt 10 6 9, .m 11 10, .gf 12 11 false 0
 1, .gn 13 11 false 12, .g 14 11 false (.bin .eql false (.tmp 13) (.const (.int .i64 5))), .pt 15 11 14, .m 16 15, .gf 17 16 false 0 1, .gn 18 16 false 17, .g 19 16 false (.bin .eql false (.tmp 18) (.const (.int .i64
 6))), .pt 20 16 19, .m 2 20], .ret]
def y1_ : LF := ⟨1, 21, c33, [.tmp 2]⟩
theorem Dn_ : au_ Tryz.prog Tryz.f33 y1_ := ah_
theorem iB_ (x : ab_)  (h : List Row) : aa_ Tryz.prog 33 [.agg (ab_.cells x)] h (.val (.bool (bP_ x))) := by
 refine ak_ mixed Tryz.func33 Dn_ rfl rfl ?_ h
 simp (disch := omega) only [y1_, c33, ab_.cells, go_sem, Nat.reduceEqDiff, Nat.reduceAdd, ↓reduceIte]
 repeat' (first
  | exact af_ _ _
  | (refine ad_ ?_; simp [bP_, *]; done)
  | simp (disch := omega) only [go_sem, Nat.reduceEqDiff, ↓reduceIte]
  | ((first | (apply aW_; assumption) | (apply aX_; assumption) | (apply bb_; assumption) | (apply ba_; assumption)); intro hb; try simp only [hb])
  | ((first | (apply aM_; assumption) | (apply aO_; assumption) | (apply aR_; assumption) | (apply aS_; assumption)); intro hb; try simp only [hb])
  | ((first | apply aC_ | apply aG_ | apply an_ | apply ar_) <;> intro hb <;> (try simp only [hb]) <;> (first | have hp := a5_ hb | have hp := a4_ hb | have hp := a6_ hb | have hp := a7_ hb | skip)))
def c36 : LC :=
 .q [.o [.bx 1 44 0, .f 2], .o [.fa 3 0 1, .ln 4 3, .bk 5 .eql false 4 2, .m 6 5, .gf 7 6 false 0 1, .gn 8 6 false 7, .g 9 6 false (.bin .eql false (.tmp 8) (.const (.int .i64 3))), .pt 10 6 9, .m 2 10], .ret]
def y2_ : LF := ⟨1, 11, c36, [.tmp 2]⟩
theorem CK_ : au_ Tryz.prog Tryz.f36 y2_ := ah_
theorem gM_ (x : ab_)  (h : List Row) : aa_ Tryz.prog 36 [.agg (ab_.cells x)] h (.val (.bool (bI_ x))) := by
 refine ak_ mixed Tryz.func36 CK_ rfl rfl ?_ h
 simp (disch := omega) only [y2_, c36, ab_.cells, go_sem, Nat.reduceEqDiff, Nat.reduceAdd, ↓reduceIte]
 repeat' (first
  | exact af_ _ _
  | (refine ad_ ?_; simp [bI_, *]; done)
  | simp (disch := omega) only [go_sem, Nat.reduceEqDiff, ↓reduceIte]
  | ((first | (apply aW_; assumption) | (apply aX_; assumption) | (apply bb_; assumption) | (apply ba_; assumption)); intro hb; try simp only [hb])
  | ((first | (apply aM_; assumption) | (apply aO_; assumption) | (apply aR_; assumption) | (apply aS_; assumption)); intro hb; try simp only [hb])
  | ((first | apply aC_ | apply aG_ | apply an_ | apply ar_) <;> intro hb <;> (try simp only [hb]) <;> (first | have hp := a5_ hb | have hp := a4_ hb | have hp := a6_ hb | have hp := a7_ hb | skip)))
def c97 : LC :=
 .q [.o [.bx 1 44 0, .f 2], .o [.fa 3 0 1, .ln 4 3, .bk 5 .eql false 4 2, .m 6 5, .gf 7 6 false 0 1, .gn 8 6 false 7, .g 9 6 false (.bin .eql false (.tmp 8) (.const (.int .i64 3))), .pt 10 6 9, .m 2 10], .ret]
def BO_ : LF := ⟨1, 11, c97, [.tmp 2]⟩
theorem CX_ : au_ Tryz.prog Tryz.f97 BO_ := ah_
theorem iu_ (x : ab_)  (h : List Row) : aa_ Tryz.prog 97 [.agg (ab_.cells x)] h (.val (.bool (bI_ x))) := by
 refine ak_ mixed Tryz.func97 CX_ rfl rfl ?_ h
 simp (disch := omega) only [BO_, c97, ab_.cells, go_sem, Nat.reduceEqDiff, Nat.reduceAdd, ↓reduceIte]
 repeat' (first
  | exact af_ _ _
  | (refine ad_ ?_; simp [bI_, *]; done)
  | simp (disch := omega) only [go_sem, Nat.reduceEqDiff, ↓reduceIte]
  | ((first | (apply aW_; assumption) | (apply aX_; assumption) | (apply bb_; assumption) | (apply ba_; assumption)); intro hb; try simp only [hb])
  | ((first | (apply aM_; assumption) | (apply aO_; assumption) | (apply aR_; assumption) | (apply aS_; assumption)); intro hb; try simp only [hb])
  | ((first | apply aC_ | apply aG_ | apply an_ | apply ar_) <;> intro hb <;> (try simp only [hb]) <;> (first | have hp := a5_ hb | have hp := a4_ hb | have hp := a6_ hb | have hp := a7_ hb | skip)))
def cH_ (x : ab_) : Bool := b0_ x.Name && (if x.Kind = 5 then decide (0 < (x.Subs.length : Int)) && decide ((x.Subs.length : Int) ≤ 4) && bq_ (bY_ x.Subs) && (decide (dZ_ x.Subs = txt []) || bU_ (dZ_ x.Subs)) else bq_ x.Subs)
def c72 : LC :=
 .q [.o [.bx 1 44 0, .f 2], .q [.o [.fa 4 1 1, .ln 5 4, .c1 6 107 5, .nt 7 6], .k 7 (.q [.o [.f 2], .ret]) .skip], .q [.o [.fa 8 0 1, .ln 9 8, .bk 10 .neq false 9 5], .k 10 (.q [.o [.fa 11 2 1, .ln 12 11, .c1 13 76 12, .m
 2 13], .ret]) .skip], .o [.fa 14 2 1, .ln 15 14, .ll 16 15, .m 3 16], .q [.o [.m 17 3, .bk 18 .lss false 17 1, .m 19 18, .gm 20 19 false 3, .g 21 19 false (.bin .gtr false (.tmp 20) (.const (.int .i64 4))), .pt 22 19 21,
 .m 23 22, .gf 24 23 false 2 1, .gn 25 23 false 24, .gm 26 23 false 3, .g 27 23 false (.bin .sub false (.tmp 26) (.const (.int .i64 1))), .g 28 23 false (.sliceSl 1 (.tmp 25) none (some (.tmp 27))), .gc 29 23 false 76 28,
 .gu 30 23 false 29, .pt 31 23 30], .k 31 (.q [.o [.f 2], .ret]) .skip], .o [.fa 32 2 1, .ln 33 32, .m 34 3, .bk 35 .sub false 34 1, .ia 36 1 33 35, .ln 37 36, .s 38 (.bin .eql false (.tmp 37) (.const (.string ⟨#[]⟩))),
 .m 39 38, .gf 40 39 false 2 1, .gn 41 39 false 40, .gm 42 39 false 3, .g 43 39 false (.bin .sub false (.tmp 42) (.const (.int .i64 1))), .g 44 39 false (.indexAddr 1 (.tmp 41) (.tmp 43)), .gn 45 39 false 44, .gc 46 39
 false 74 45, .pt 47 39 46, .m 2 47], .ret]
def qd_ : LF := ⟨1, 48, c72, [.tmp 2]⟩
theorem CY_ : au_ Tryz.prog Tryz.f72 qd_ := ah_
theorem ml_ (x : ab_) (hx : ab_.sz x ≤ 1048576) (h : List Row) : aa_ Tryz.prog 72 [.agg (ab_.cells x)] h (.val (.bool (cH_ x))) := by
 refine ak_ mixed Tryz.func72 CY_ rfl rfl ?_ h
 have h1 := ab_.sz_Name hx
 have h2 := aA_ (ab_.sz_Subs hx)
 by_cases k5 : x.Kind = 5
 case neg =>
  have hN : cH_ x = (b0_ x.Name && bq_ x.Subs) := by rw [cH_, if_neg k5]
  simp (disch := omega) only [qd_, c72, ab_.cells, go_sem, Nat.reduceEqDiff, Nat.reduceAdd, ↓reduceIte]
  repeat' (first
   | exact af_ _ _
   | (refine ad_ ?_; rw [hN]; simp only [*, Bool.true_and, Bool.false_and]; done)
   | simp (disch := omega) only [k5, go_sem, Nat.reduceEqDiff, ↓reduceIte]
   | (refine aa_.call (bV_ _ h1 _) ?_)
   | (refine aa_.q (bV_ _ h1 _) ?_)
   | (refine aa_.call (bW_ _ h2 _) ?_)
   | (refine aa_.q (bW_ _ h2 _) ?_)
   | ((first | (apply aW_; assumption) | (apply aX_; assumption) | (apply bb_; assumption) | (apply ba_; assumption)); intro hb; try simp only [hb])
   | ((first | (apply aM_; assumption) | (apply aO_; assumption) | (apply aR_; assumption) | (apply aS_; assumption)); intro hb; try simp only [hb])
   | ((first | apply aC_ | apply aG_ | apply an_ | apply ar_) <;> intro hb <;> (try simp only [hb]) <;> (first | have hp := a5_ hb | have hp := a4_ hb | have hp := a6_ hb | have hp := a7_ hb | skip)))
 have hN : cH_ x = (b0_ x.Name && (decide (0 < (x.Subs.length : Int)) && decide ((x.Subs.length : Int) ≤ 4) && bq_ (bY_ x.Subs) && (decide (dZ_ x.Subs = txt []) || bU_ (dZ_ x.Subs)))) := by rw [cH_, if_pos k5]
 by_cases h0 : x.Subs.length = 0
 ·have h0' : ((0 : Int) < x.Subs.length) = False := eq_false (by omega)
  have h0'' : ((x.Subs.length : Int) < 1) = True := eq_true (by omega)
  simp (disch := omega) only [qd_, c72, ab_.cells, k5, go_sem, Nat.reduceEqDiff, Nat.reduceAdd, ↓reduceIte]
  repeat' (first
   | exact af_ _ _
   | (refine ad_ ?_; rw [hN]; simp [h0]; done)
   | (refine ad_ ?_; rw [hN]; simp only [*, Bool.and_true, Bool.true_and, Bool.and_false, Bool.false_and, Bool.or_true, Bool.true_or, Bool.or_false, Bool.false_or, Bool.not_true, Bool.not_false, decide_true, decide_false, Bool.and_self, Bool.or_self]; done)
   | simp (disch := omega) only [h0'', go_sem, Nat.reduceEqDiff, ↓reduceIte]
   | (refine aa_.call (bV_ _ h1 _) ?_)
   | (refine aa_.q (bV_ _ h1 _) ?_)
   | ((first | (apply aW_; assumption) | (apply aX_; assumption) | (apply bb_; assumption) | (apply ba_; assumption)); intro hb; try simp only [hb])
   | ((first | (apply aM_; assumption) | (apply aO_; assumption) | (apply aR_; assumption) | (apply aS_; assumption)); intro hb; try simp only [hb])
   | ((first | apply aC_ | apply aG_ | apply an_ | apply ar_) <;> intro hb <;> (try simp only [hb]) <;> (first | have hp := a5_ hb | have hp := a4_ hb | have hp := a6_ hb | have hp := a7_ hb | skip)))
 ·have h0' : ((0 : Int) < x.Subs.length) = True := eq_true (by omega)
  have h0'' : ((x.Subs.length : Int) < 1) = False := eq_false (by omega)
  have hlt : x.Subs.length - 1 < x.Subs.length := by omega
  have hfr : x.Subs.take (x.Subs.length - 1) = bY_ x.Subs := rfl
  have hfl : (bY_ x.Subs).length ≤ 1048576 := by rw [bY_, length_take]; omega
  have hw : IntKind.i64.wrap ((x.Subs.length : Int) - 1) = ((x.Subs.length - 1 : Nat) : Int) := by rw [as_ (n := (x.Subs.length : Int) - 1) (by omega) (by omega)]; omega
  by_cases q4 : (x.Subs.length : Int) ≤ 4
  ·have q4' : ((4 : Int) < x.Subs.length) = False := eq_false (by omega)
   simp (disch := omega) only [qd_, c72, ab_.cells, k5, go_sem, Nat.reduceEqDiff, Nat.reduceAdd, ↓reduceIte]
   repeat' (first
    | exact af_ _ _
    | (refine ad_ ?_; rw [hN]; simp only [*, Bool.true_and, Bool.and_false, Bool.false_and, Bool.true_or, Bool.false_or, decide_true, Bool.and_self]; done)
    | simp (disch := omega) only [h0'', q4', hw, fi_, hfr, gj_, aj_, go_sem, Nat.reduceEqDiff, ↓reduceIte]
    | (refine aa_.call (bV_ _ h1 _) ?_)
    | (refine aa_.q (bV_ _ h1 _) ?_)
    | (refine aa_.call (bW_ _ hfl _) ?_)
    | (refine aa_.q (bW_ _ hfl _) ?_)
    | (refine aa_.call (d1_ _ _) ?_)
    | (refine aa_.q (d1_ _ _) ?_)
    | ((first | (apply aW_; assumption) | (apply aX_; assumption) | (apply bb_; assumption) | (apply ba_; assumption)); intro hb; try simp only [hb])
    | ((first | (apply aM_; assumption) | (apply aO_; assumption) | (apply aR_; assumption) | (apply aS_; assumption)); intro hb; try simp only [hb])
    | ((first | apply aC_ | apply aG_ | apply an_ | apply ar_) <;> intro hb <;> (try simp only [hb]) <;> (first | have hp := a5_ hb | have hp := a4_ hb | have hp := a6_ hb | have hp := a7_ hb | skip)))
  ·have q4' : ((4 : Int) < x.Subs.length) = True := eq_true (by omega)
   simp (disch := omega) only [qd_, c72, ab_.cells, k5, go_sem, Nat.reduceEqDiff, Nat.reduceAdd, ↓reduceIte]
   repeat' (first
    | exact af_ _ _
    | (refine ad_ ?_; rw [hN]; simp only [*, Bool.and_false, Bool.false_and, decide_true, decide_false, Bool.and_self]; done)
    | simp (disch := omega) only [h0'', q4', go_sem, Nat.reduceEqDiff, ↓reduceIte]
    | (refine aa_.call (bV_ _ h1 _) ?_)
    | (refine aa_.q (bV_ _ h1 _) ?_)
    | ((first | (apply aW_; assumption) | (apply aX_; assumption) | (apply bb_; assumption) | (apply ba_; assumption)); intro hb; try simp only [hb])
    | ((first | (apply aM_; assumption) | (apply aO_; assumption) | (apply aR_; assumption) | (apply aS_; assumption)); intro hb; try simp only [hb])
    | ((first | apply aC_ | apply aG_ | apply an_ | apply ar_) <;> intro hb <;> (try simp only [hb]) <;> (first | have hp := a5_ hb | have hp := a4_ hb | have hp := a6_ hb | have hp := a7_ hb | skip)))
theorem ow_ (s : ByteArray) : (!eJ_ s) = decide ((s.size : Int) ≤ 64) := by
 rw [eJ_, Bool.eq_iff_iff]; simp only [Bool.not_eq_true', decide_eq_false_iff_not, decide_eq_true_eq]; omega
theorem rS_ (xs : List ByteArray) (x : ByteArray) : bq_ (xs ++ [x]) = (decide ((xs.length : Int) + 1 ≤ 4) && (xs.all bU_ && bU_ x)) := by
 simp [bq_]
theorem sg_ (xs : List ByteArray) (h : 0 < xs.length) : xs = bY_ xs ++ [dZ_ xs] := by
 have hlt : xs.length - 1 < xs.length := by omega
 rw [← gj_ xs hlt, bY_]
 conv => lhs; rw [← take_append_drop (xs.length - 1) xs]
 congr 1
 rw [drop_eq_getElem_cons hlt, drop_eq_nil_of_le (by omega)]
theorem sG_ (xs : List ByteArray) : (decide ((xs.length : Int) ≤ 4) && gL_ xs) = (decide (0 < (xs.length : Int)) && decide ((xs.length : Int) ≤ 4) && bq_ (bY_ xs) && (decide (dZ_ xs = txt []) || bU_ (dZ_ xs))) := by
 by_cases h0 : 0 < xs.length
 case neg =>
  have : xs.length = 0 := by omega
  simp [gL_, this]
 have hs : bq_ xs = (decide ((xs.length : Int) ≤ 4) && ((bY_ xs).all bU_ && bU_ (dZ_ xs))) := by
  have e := sg_ xs h0
  have hl : ((bY_ xs).length : Int) + 1 = xs.length := by rw [bY_, length_take]; omega
  conv => lhs; rw [e]
  rw [rS_, hl]
 have hf : bq_ (bY_ xs) = (decide (((bY_ xs).length : Int) ≤ 4) && (bY_ xs).all bU_) := rfl
 have hl : ((bY_ xs).length : Int) = xs.length - 1 := by rw [bY_, length_take]; omega
 rw [gL_, hs, hf, hl]
 have h1 : decide (0 < (xs.length : Int)) = true := by simp; omega
 rw [h1]
 by_cases h4 : (xs.length : Int) ≤ 4
 ·have h5 : decide ((xs.length : Int) - 1 ≤ 4) = true := by simp; omega
  have h4' : decide ((xs.length : Int) ≤ 4) = true := by simpa using h4
  rw [h4', h5]
  cases (bY_ xs).all bU_ <;> cases bU_ (dZ_ xs) <;> cases decide (dZ_ xs = txt []) <;> rfl
 ·have h4' : decide ((xs.length : Int) ≤ 4) = false := by simpa using h4
  rw [h4']; rfl
theorem rg_ {x : ab_} (k5 : ¬ x.Kind = 5) : cH_ x = (b0_ x.Name && bq_ x.Subs) := by rw [cH_, if_neg k5]
theorem s0_ {x : ab_} (k5 : ¬ x.Kind = 5) : bm_ x = (cH_ x && bk_ x) := by
 rw [bm_, if_neg k5, rg_ k5]; cases b0_ x.Name <;> cases bk_ x <;> cases bq_ x.Subs <;> rfl
theorem sj_ {x : ab_} (k5 : x.Kind = 5) : bm_ x = (cH_ x && bk_ x) := by
 rw [bm_, if_pos k5, cH_, if_pos k5, sG_]
 generalize (decide (0 < (x.Subs.length : Int)) && decide ((x.Subs.length : Int) ≤ 4) && bq_ (bY_ x.Subs) && (decide (dZ_ x.Subs = txt []) || bU_ (dZ_ x.Subs))) = q
 cases b0_ x.Name <;> cases bk_ x <;> cases q <;> rfl
theorem d5_ (x : ab_) : bm_ x = (cH_ x && bk_ x) := by
 by_cases k5 : x.Kind = 5
 ·exact sj_ k5
 ·exact s0_ k5
theorem Ea_ {x : ab_} (k : x.Kind = 1) : bk_ x = (decide ((x.Value.size : Int) ≤ 64) && er_ x.N && (decide (x.N.tmod 10 = 1) || decide (x.Value = txt []))) := by
 rw [bk_, if_pos k, ow_]; rw [Bool.and_comm (er_ x.N)]
theorem D3_ {x : ab_} (k : x.Kind = 4) : bk_ x = (er_ x.N && decide (x.Value = txt [])) := by
 rw [bk_, if_neg (by omega), if_pos k]
theorem Eb_ {x : ab_} (k : x.Kind = 5) : bk_ x = ((decide (x.Value = txt []) || bU_ x.Value) && (decide (x.N = 1) || decide (x.N = -1))) := by
 rw [bk_, if_neg (by omega), if_neg (by omega), if_pos k, Bool.and_comm]
theorem oj_ (s : ByteArray) : bq_ (dz_ s).1 = true := by
 rw [dz_]
 cases h : fL_ dx_ (bs s) with
 | none => rfl
 | some xs => simp only; rw [ee_]; exact ((gU_ iv_ (bs s) xs).1 h).1
theorem Bu_ {x : ab_} (k : x.Kind = 6) : bk_ x = if x.N = 0 then decide (x.Value = txt []) else decide (x.N = 1) && (dz_ x.Value).2 := by
 rw [bk_, if_neg (by omega), if_neg (by omega), if_neg (by omega), if_pos k]
 by_cases h : x.N = 0
 ·rw [if_pos h, h]; simp
 ·rw [if_neg h]; simp [h]
theorem Ed_ {x : ab_} (k : x.Kind = 2) : bk_ x = (decide ((x.Value.size : Int) ≤ 64) && decide (x.N = 0)) := by
 rw [bk_, if_neg (by omega), if_neg (by omega), if_neg (by omega), if_neg (by omega), if_pos k, ow_, Bool.and_comm]
theorem Ec_ {x : ab_} (k : x.Kind = 3) : bk_ x = (decide (x.Value = txt []) && decide (x.N = 0)) := by
 rw [bk_, if_neg (by omega), if_neg (by omega), if_neg (by omega), if_neg (by omega), if_neg (by omega)]
 simp [k, Bool.and_comm]
theorem D4_ {x : ab_} (k1 : ¬ x.Kind = 1) (k4 : ¬ x.Kind = 4) (k5 : ¬ x.Kind = 5) (k6 : ¬ x.Kind = 6) (k2 : ¬ x.Kind = 2) (k3 : ¬ x.Kind = 3) : bk_ x = false := by
 simp [bk_, *]
theorem ve_ (s : ByteArray) : (dz_ s).1.length ≤ 1048576 := by
 have := (eL_ (oj_ s)).1; omega
def c31 : LC :=
 .q [.o [.bx 1 44 0, .f 2], .q [.o [.ld 5 5 1, .c1 6 33 5, .nt 7 6, .m 8 7, .gl 9 8 true 5 1, .gc 10 8 true 36 9, .gu 11 8 true 10, .pf 12 8 11, .m 13 12, .gl 14 13 false 5 1, .gc 15 13 false 72 14, .gu 16 13 false 15,
 .pt 17 13 16], .k 17 (.q [.o [.f 2], .ret]) .skip], .q [.o [.fa 18 0 1, .ln 19 18], .block 0 (.q [.o [.bk 21 .eql false 19 1, .m 20 21], .k 20 (.q [.o [.fa 22 3 1, .ln 23 22, .s 24 (.lenStr (.tmp 23)), .bk 25 .leq false
 24 64, .m 26 25, .gf 27 26 true 4 1, .gn 28 26 true 27, .gc 29 26 true 73 28, .pf 30 26 29, .m 31 30, .gf 32 31 true 4 1, .gn 33 31 true 32, .g 34 31 true (.bin .rem false (.tmp 33) (.const (.int .i64 10))), .g 35 31
 true (.bin .eql false (.tmp 34) (.const (.int .i64 1))), .gm 36 31 true 35, .gf 37 36 false 3 1, .gn 38 36 false 37, .g 39 36 false (.bin .eql false (.tmp 38) (.const (.string ⟨#[]⟩))), .g 40 31 true (.pick (.tmp 36)
 (.const (.bool true)) (.tmp 39)), .pf 41 31 40, .m 2 41], .ret]) (.q [.o [.bk 43 .eql false 19 4, .m 42 43], .k 42 (.q [.o [.fa 44 4 1, .ln 45 44, .c1 46 73 45, .m 47 46, .gf 48 47 true 3 1, .gn 49 47 true 48, .g 50 47
 true (.bin .eql false (.tmp 49) (.const (.string ⟨#[]⟩))), .pf 51 47 50, .m 2 51], .ret]) (.q [.o [.bk 53 .eql false 19 5, .m 52 53], .k 52 (.q [.o [.fa 54 3 1, .ln 55 54, .s 56 (.bin .eql false (.tmp 55) (.const
 (.string ⟨#[]⟩))), .m 57 56, .gf 58 57 false 3 1, .gn 59 57 false 58, .gc 60 57 false 74 59, .pt 61 57 60, .m 62 61, .gf 63 62 true 4 1, .gn 64 62 true 63, .g 65 62 true (.bin .eql false (.tmp 64) (.const (.int .i64
 1))), .gm 66 62 true 65, .gf 67 66 false 4 1, .gn 68 66 false 67, .g 69 66 false (.bin .eql false (.tmp 68) (.const (.int .i64 (-1)))), .g 70 62 true (.pick (.tmp 66) (.const (.bool true)) (.tmp 69)), .pf 71 62 70, .m 2
 71], .ret]) (.q [.o [.bk 73 .eql false 19 6, .m 72 73], .k 72 (.q [.q [.o [.fa 74 4 1, .ln 75 74, .bk 76 .eql false 75 0], .k 76 (.q [.o [.fa 77 3 1, .ln 78 77, .s 79 (.bin .eql false (.tmp 78) (.const (.string ⟨#[]⟩))),
 .m 2 79], .ret]) .skip], .o [.fa 81 3 1, .ln 82 81, .c1 83 75 82, .m 80 83, .ex 84 80 0, .ex 85 80 1, .m 3 84, .m 4 85], .o [.fa 86 4 1, .ln 87 86, .bk 88 .eql false 87 1, .m 89 88, .gm 90 89 true 4, .pf 91 89 90, .m 92
 91, .gm 93 92 true 3, .gc 94 92 true 76 93, .pf 95 92 94, .m 2 95], .ret]) (.q [.o [.bk 97 .eql false 19 2, .m 96 97], .k 96 (.q [.o [.fa 98 3 1, .ln 99 98, .s 100 (.lenStr (.tmp 99)), .bk 101 .leq false 100 64, .m 102
 101, .gf 103 102 true 4 1, .gn 104 102 true 103, .g 105 102 true (.bin .eql false (.tmp 104) (.const (.int .i64 0))), .pf 106 102 105, .m 2 106], .ret]) .skip])])])])])], .o [.fa 107 3 1, .ln 108 107, .s 109 (.bin .eql
 false (.tmp 108) (.const (.string ⟨#[]⟩))), .m 110 109, .gf 111 110 true 4 1, .gn 112 110 true 111, .g 113 110 true (.bin .eql false (.tmp 112) (.const (.int .i64 0))), .pf 114 110 113, .m 2 114], .ret]
def jZ_ : LF := ⟨1, 115, c31, [.tmp 2]⟩
theorem Di_ : au_ Tryz.prog Tryz.f31 jZ_ := ah_
theorem eA_ (x : ab_) (hx : ab_.sz x ≤ 1048576) (h : List Row) : aa_ Tryz.prog 31 [.agg (ab_.cells x)] h (.val (.bool (bm_ x))) := by
 refine ak_ mixed Tryz.func31 Di_ rfl rfl ?_ h
 have hv := ab_.sz_Value hx
 have hW := fun h => ml_ x hx h
 have hRd := fun h => iB_ x h
 have hTn := fun h => gM_ x h
 have hq := ve_ x.Value
 have hqs := oj_ x.Value
 by_cases k1 : x.Kind = 1
 ·have r : bP_ x = true := by simp [bP_, k1]
  have hN : bm_ x = (cH_ x && (decide ((x.Value.size : Int) ≤ 64) && er_ x.N && (decide (x.N.tmod 10 = 1) || decide (x.Value = txt [])))) := by rw [d5_, Ea_ k1]
  rw [r] at hRd
  simp only [ab_.cells, k1] at hW hRd hTn
  simp (disch := omega) only [jZ_, c31, ab_.cells, k1, go_sem, Nat.reduceEqDiff, Nat.reduceAdd, Int.reduceNeg, ↓reduceIte]
  repeat' (first
   | exact af_ _ _
   | (refine ad_ ?_; rw [hN]; simp only [*, Bool.true_and, Bool.and_false, Bool.false_and, Bool.true_or, Bool.false_or, decide_true, decide_false, Bool.and_self]; done)
   | simp (disch := omega) only [go_sem, Nat.reduceEqDiff, Nat.reduceAdd, Int.reduceNeg, ↓reduceIte]
   | (refine aa_.call (hRd _) ?_)
   | (refine aa_.q (hRd _) ?_)
   | (refine aa_.call (hTn _) ?_)
   | (refine aa_.q (hTn _) ?_)
   | (refine aa_.call (hW _) ?_)
   | (refine aa_.q (hW _) ?_)
   | (refine aa_.call (e2_ _ _) ?_)
   | (refine aa_.q (e2_ _ _) ?_)
   | ((first | (apply aW_; assumption) | (apply aX_; assumption) | (apply bb_; assumption) | (apply ba_; assumption)); intro hb; try simp only [hb])
   | ((first | (apply aM_; assumption) | (apply aO_; assumption) | (apply aR_; assumption) | (apply aS_; assumption)); intro hb; try simp only [hb])
   | ((first | apply aC_ | apply aG_ | apply an_ | apply ar_) <;> intro hb <;> (try simp only [hb]) <;> (first | have hp := a5_ hb | have hp := a4_ hb | have hp := a6_ hb | have hp := a7_ hb | skip)))
 by_cases k4 : x.Kind = 4
 ·have r : bP_ x = true := by simp [bP_, k4]
  have hN : bm_ x = (cH_ x && (er_ x.N && decide (x.Value = txt []))) := by rw [d5_, D3_ k4]
  rw [r] at hRd
  simp only [ab_.cells, k4] at hW hRd hTn
  simp (disch := omega) only [jZ_, c31, ab_.cells, k4, go_sem, Nat.reduceEqDiff, Nat.reduceAdd, Int.reduceNeg, ↓reduceIte]
  repeat' (first
   | exact af_ _ _
   | (refine ad_ ?_; rw [hN]; simp only [*, Bool.true_and, Bool.and_false, Bool.false_and]; done)
   | simp (disch := omega) only [Int.reduceEq, go_sem, Nat.reduceEqDiff, Nat.reduceAdd, Int.reduceNeg, ↓reduceIte]
   | (refine aa_.call (hRd _) ?_)
   | (refine aa_.q (hRd _) ?_)
   | (refine aa_.call (hTn _) ?_)
   | (refine aa_.q (hTn _) ?_)
   | (refine aa_.call (hW _) ?_)
   | (refine aa_.q (hW _) ?_)
   | (refine aa_.call (e2_ _ _) ?_)
   | (refine aa_.q (e2_ _ _) ?_)
   | ((first | (apply aW_; assumption) | (apply aX_; assumption) | (apply bb_; assumption) | (apply ba_; assumption)); intro hb; try simp only [hb])
   | ((first | (apply aM_; assumption) | (apply aO_; assumption) | (apply aR_; assumption) | (apply aS_; assumption)); intro hb; try simp only [hb])
   | ((first | apply aC_ | apply aG_ | apply an_ | apply ar_) <;> intro hb <;> (try simp only [hb]) <;> (first | have hp := a5_ hb | have hp := a4_ hb | have hp := a6_ hb | have hp := a7_ hb | skip)))
 by_cases k5 : x.Kind = 5
 ·have r : bP_ x = true := by simp [bP_, k5]
  have hN : bm_ x = (cH_ x && ((decide (x.Value = txt []) || bU_ x.Value) && (decide (x.N = 1) || decide (x.N = -1)))) := by rw [d5_, Eb_ k5]
  rw [r] at hRd
  simp only [ab_.cells, k5] at hW hRd hTn
  simp (disch := omega) only [jZ_, c31, ab_.cells, k5, go_sem, Nat.reduceEqDiff, Nat.reduceAdd, Int.reduceNeg, ↓reduceIte]
  repeat' (first
   | exact af_ _ _
   | (refine ad_ ?_; rw [hN]; simp only [*, Bool.true_and, Bool.and_false, Bool.false_and, Bool.or_true, Bool.true_or, Bool.false_or, Bool.and_self, Bool.or_self]; done)
   | simp (disch := omega) only [Int.reduceEq, go_sem, Nat.reduceEqDiff, Nat.reduceAdd, Int.reduceNeg, ↓reduceIte]
   | (refine aa_.call (hRd _) ?_)
   | (refine aa_.q (hRd _) ?_)
   | (refine aa_.call (hTn _) ?_)
   | (refine aa_.q (hTn _) ?_)
   | (refine aa_.call (hW _) ?_)
   | (refine aa_.q (hW _) ?_)
   | (refine aa_.call (d1_ _ _) ?_)
   | (refine aa_.q (d1_ _ _) ?_)
   | ((first | (apply aW_; assumption) | (apply aX_; assumption) | (apply bb_; assumption) | (apply ba_; assumption)); intro hb; try simp only [hb])
   | ((first | (apply aM_; assumption) | (apply aO_; assumption) | (apply aR_; assumption) | (apply aS_; assumption)); intro hb; try simp only [hb])
   | ((first | apply aC_ | apply aG_ | apply an_ | apply ar_) <;> intro hb <;> (try simp only [hb]) <;> (first | have hp := a5_ hb | have hp := a4_ hb | have hp := a6_ hb | have hp := a7_ hb | skip)))
 by_cases k6 : x.Kind = 6
 ·have r : bP_ x = true := by simp [bP_, k6]
  rw [r] at hRd
  simp only [ab_.cells, k6] at hW hRd hTn
  by_cases hn0 : x.N = 0
  ·have hN : bm_ x = (cH_ x && decide (x.Value = txt [])) := by rw [d5_, Bu_ k6, if_pos hn0]
   simp (disch := omega) only [jZ_, c31, ab_.cells, k6, go_sem, Nat.reduceEqDiff, Nat.reduceAdd, Int.reduceNeg, ↓reduceIte]
   simp only [hn0] at hW hRd hTn
   repeat' (first
    | exact af_ _ _
    | (refine ad_ ?_; rw [hN]; simp only [*, Bool.true_and, Bool.false_and]; done)
    | simp (disch := omega) only [Int.reduceEq, hn0, go_sem, Nat.reduceEqDiff, Nat.reduceAdd, Int.reduceNeg, ↓reduceIte]
    | (refine aa_.call (hRd _) ?_)
    | (refine aa_.q (hRd _) ?_)
    | (refine aa_.call (hTn _) ?_)
    | (refine aa_.q (hTn _) ?_)
    | (refine aa_.call (hW _) ?_)
    | (refine aa_.q (hW _) ?_)
    | ((first | (apply aW_; assumption) | (apply aX_; assumption) | (apply bb_; assumption) | (apply ba_; assumption)); intro hb; try simp only [hb])
    | ((first | (apply aM_; assumption) | (apply aO_; assumption) | (apply aR_; assumption) | (apply aS_; assumption)); intro hb; try simp only [hb])
    | ((first | apply aC_ | apply aG_ | apply an_ | apply ar_) <;> intro hb <;> (try simp only [hb]) <;> (first | have hp := a5_ hb | have hp := a4_ hb | have hp := a6_ hb | have hp := a7_ hb | skip)))
  ·have hN : bm_ x = (cH_ x && (decide (x.N = 1) && (dz_ x.Value).2)) := by rw [d5_, Bu_ k6, if_neg hn0]
   simp (disch := omega) only [jZ_, c31, ab_.cells, k6, go_sem, Nat.reduceEqDiff, Nat.reduceAdd, Int.reduceNeg, ↓reduceIte]
   repeat' (first
    | exact af_ _ _
    | (refine ad_ ?_; rw [hN]; simp only [*, Bool.and_false, Bool.false_and, Bool.and_self]; done)
    | simp (disch := omega) only [Int.reduceEq, hn0, go_sem, Nat.reduceEqDiff, Nat.reduceAdd, Int.reduceNeg, ↓reduceIte]
    | (refine aa_.call (hRd _) ?_)
    | (refine aa_.q (hRd _) ?_)
    | (refine aa_.call (hTn _) ?_)
    | (refine aa_.q (hTn _) ?_)
    | (refine aa_.call (hW _) ?_)
    | (refine aa_.q (hW _) ?_)
    | (refine aa_.call (iE_ _ hv _) ?_)
    | (refine aa_.q (iE_ _ hv _) ?_)
    | (refine aa_.call (bW_ _ hq _) ?_)
    | (refine aa_.q (bW_ _ hq _) ?_)
    | ((first | (apply aW_; assumption) | (apply aX_; assumption) | (apply bb_; assumption) | (apply ba_; assumption)); intro hb; try simp only [hb])
    | ((first | (apply aM_; assumption) | (apply aO_; assumption) | (apply aR_; assumption) | (apply aS_; assumption)); intro hb; try simp only [hb])
    | ((first | apply aC_ | apply aG_ | apply an_ | apply ar_) <;> intro hb <;> (try simp only [hb]) <;> (first | have hp := a5_ hb | have hp := a4_ hb | have hp := a6_ hb | have hp := a7_ hb | skip)))
 by_cases k2 : x.Kind = 2
 ·have r : bP_ x = false := by simp [bP_, k2]
  have r2 : bI_ x = true := by simp [bI_, k2]
  have hN : bm_ x = (cH_ x && (decide ((x.Value.size : Int) ≤ 64) && decide (x.N = 0))) := by rw [d5_, Ed_ k2]
  rw [r] at hRd
  rw [r2] at hTn
  simp only [ab_.cells, k2] at hW hRd hTn
  simp (disch := omega) only [jZ_, c31, ab_.cells, k2, go_sem, Nat.reduceEqDiff, Nat.reduceAdd, Int.reduceNeg, ↓reduceIte]
  repeat' (first
   | exact af_ _ _
   | (refine ad_ ?_; rw [hN]; simp only [*, Bool.true_and, Bool.and_false, Bool.false_and, decide_true, decide_false]; done)
   | simp (disch := omega) only [Int.reduceEq, go_sem, Nat.reduceEqDiff, Nat.reduceAdd, Int.reduceNeg, ↓reduceIte]
   | (refine aa_.call (hRd _) ?_)
   | (refine aa_.q (hRd _) ?_)
   | (refine aa_.call (hTn _) ?_)
   | (refine aa_.q (hTn _) ?_)
   | (refine aa_.call (hW _) ?_)
   | (refine aa_.q (hW _) ?_)
   | ((first | (apply aW_; assumption) | (apply aX_; assumption) | (apply bb_; assumption) | (apply ba_; assumption)); intro hb; try simp only [hb])
   | ((first | (apply aM_; assumption) | (apply aO_; assumption) | (apply aR_; assumption) | (apply aS_; assumption)); intro hb; try simp only [hb])
   | ((first | apply aC_ | apply aG_ | apply an_ | apply ar_) <;> intro hb <;> (try simp only [hb]) <;> (first | have hp := a5_ hb | have hp := a4_ hb | have hp := a6_ hb | have hp := a7_ hb | skip)))
 by_cases k3 : x.Kind = 3
 ·have r : bP_ x = false := by simp [bP_, k3]
  have r2 : bI_ x = true := by simp [bI_, k3]
  have hN : bm_ x = (cH_ x && (decide (x.Value = txt []) && decide (x.N = 0))) := by rw [d5_, Ec_ k3]
  rw [r] at hRd
  rw [r2] at hTn
  simp only [ab_.cells, k3] at hW hRd hTn
  simp (disch := omega) only [jZ_, c31, ab_.cells, k3, go_sem, Nat.reduceEqDiff, Nat.reduceAdd, Int.reduceNeg, ↓reduceIte]
  repeat' (first
   | exact af_ _ _
   | (refine ad_ ?_; rw [hN]; simp only [*, Bool.true_and, Bool.and_false, Bool.false_and]; done)
   | simp (disch := omega) only [Int.reduceEq, go_sem, Nat.reduceEqDiff, Nat.reduceAdd, Int.reduceNeg, ↓reduceIte]
   | (refine aa_.call (hRd _) ?_)
   | (refine aa_.q (hRd _) ?_)
   | (refine aa_.call (hTn _) ?_)
   | (refine aa_.q (hTn _) ?_)
   | (refine aa_.call (hW _) ?_)
   | (refine aa_.q (hW _) ?_)
   | ((first | (apply aW_; assumption) | (apply aX_; assumption) | (apply bb_; assumption) | (apply ba_; assumption)); intro hb; try simp only [hb])
   | ((first | (apply aM_; assumption) | (apply aO_; assumption) | (apply aR_; assumption) | (apply aS_; assumption)); intro hb; try simp only [hb])
   | ((first | apply aC_ | apply aG_ | apply an_ | apply ar_) <;> intro hb <;> (try simp only [hb]) <;> (first | have hp := a5_ hb | have hp := a4_ hb | have hp := a6_ hb | have hp := a7_ hb | skip)))
 have r : bP_ x = false := by simp [bP_, *]
 have r2 : bI_ x = false := by simp [bI_, *]
 have hN : bm_ x = false := by rw [d5_, D4_ k1 k4 k5 k6 k2 k3]; simp
 rw [r] at hRd
 rw [r2] at hTn
 simp only [ab_.cells] at hW hRd hTn
 simp (disch := omega) only [jZ_, c31, ab_.cells, go_sem, Nat.reduceEqDiff, Nat.reduceAdd, Int.reduceNeg, ↓reduceIte]
 repeat' (first
  | exact af_ _ _
  | (refine ad_ ?_; rw [hN]; done)
  | simp (disch := omega) only [go_sem, Nat.reduceEqDiff, Nat.reduceAdd, Int.reduceNeg, ↓reduceIte]
  | (refine aa_.call (hRd _) ?_)
  | (refine aa_.q (hRd _) ?_)
  | (refine aa_.call (hTn _) ?_)
  | (refine aa_.q (hTn _) ?_)
  | (refine aa_.call (hW _) ?_)
  | (refine aa_.q (hW _) ?_)
  | ((first | (apply aW_; assumption) | (apply aX_; assumption) | (apply bb_; assumption) | (apply ba_; assumption)); intro hb; try simp only [hb])
  | ((first | (apply aM_; assumption) | (apply aO_; assumption) | (apply aR_; assumption) | (apply aS_; assumption)); intro hb; try simp only [hb])
  | ((first | apply aC_ | apply aG_ | apply an_ | apply ar_) <;> intro hb <;> (try simp only [hb]) <;> (first | have hp := a5_ hb | have hp := a4_ hb | have hp := a6_ hb | have hp := a7_ hb | skip)))
end Go.Proofs.YtfkddbkjmkceaaaGreatDoor
