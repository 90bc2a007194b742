/-
 Contracts of functions. Conditions: as each theorem says.
-/
import Derived.Test.YtfkddbkjmkceaaaGreatDoorFnKA
import Derived.Test.YtfkddbkjmkceaaaGreatDoorAwBits
import Derived.Test.YtfkddbkjmkceaaaGreatDoorPlKey
import Derived.Test.YtfkddbkjmkceaaaGreatDoorAwC
namespace Go.Proofs.YtfkddbkjmkceaaaGreatDoor
open List
open Go.AW
set_option linter.unusedVariables false
set_option linter.unusedSimpArgs false
set_option maxRecDepth 4000
open Nat (reduceEqDiff reduceLeDiff)
open Tryz (prog)
abbrev mn_ (b : Nat) : AV := .val (.pointer (some ⟨b, 0, none⟩))
theorem nm_ {b : Nat} {l : List UInt8} {c : UInt8} {K : AV → Bd → Prop} (hlen : l.length + 1 ≤ 140737488355328) (hk : K (.val .nilIface) (some (b, l ++ [c]))) : gG_ Tryz.prog 154 5 183 [mn_ b, .val (.int .u8 c.toNat)] (some (b, l)) K :=
 ll_ (vals := [.int .u8 c.toNat]) (r := .nilIface) (new := [c]) (fun B w h hB => (Any.Builder_WriteByte_k Tryz.lays167 Tryz.Builder_Extra_167 B b (Lib.byteCells l) c.toNat w h (by rw [Lib.byteCells_length]; exact hlen) hB).mono (by
  rintro en w' ⟨rfl, h1, h2, _⟩
  refine ⟨rfl, .inr ?_, h2⟩
  have e : Lib.byteCells (l ++ [c]) = Lib.byteCells l ++ [.int .u8 c.toNat] := by simp [Lib.byteCells]
  rw [e]; exact h1)) hk
theorem BT_ {b : Nat} {l s : List UInt8} {K : AV → Bd → Prop} (hlen : l.length + s.length ≤ 140737488355328) (hk : ∀ r : Value, K (.val r) (some (b, l ++ s))) : gG_ Tryz.prog 154 5 190 [mn_ b, .val (.string (txt s))] (some (b, l)) K :=
 ll_ (vals := [.string (txt s)]) (r := .tuple #[.int .i64 (txt s).size, .nilIface]) (new := s) (fun B w h hB => (Any.Builder_WriteString_k Tryz.lays166 Tryz.Builder_Extra_166 B b (Lib.byteCells l) (txt s) w h (by rw [Lib.byteCells_length, cf_]; exact hlen) hB).mono (by
  rintro en w' ⟨rfl, h1, h2, _⟩
  refine ⟨rfl, .inr ?_, h2⟩
  have e : Lib.byteCells (l ++ s) = Lib.byteCells l ++ Lib.strCells (txt s) := by simp [Lib.byteCells, Lib.strCells, txt]
  rw [e]; exact h1)) (hk _)
theorem w3_ {b : Nat} {l : List UInt8} {K : AV → Bd → Prop} (hk : K (.val (.string (txt l))) (some (b, l))) : gG_ Tryz.prog 154 5 171 [mn_ b] (some (b, l)) K := by
 refine ll_ (vals := []) (r := .string (txt l)) (new := []) (fun B w h hB => (Any.Builder_String_any_k Tryz.lays169 Tryz.Builder_Extra_169 B b l w h hB).mono (by
  rintro en w' ⟨rfl, h1, h2, _⟩
  refine ⟨rfl, ?_, h2⟩
  rw [append_nil]; exact h1)) (by rw [append_nil]; exact hk)
theorem ju_ (s : List UInt8) (hs : s.length ≤ 1048576) (h : List Row) : aa_ Tryz.prog 191 [.val (.string (txt s)), .val (.string (txt [0])), .val (.string (txt [0, 255]))] h (.val (.string (txt (esc s)))) := by
 refine re_ (vals := [.string (txt s), .string (txt [0]), .string (txt [0, 255])]) (fun w hM => ?_) h
 obtain ⟨m, hm⟩ := hM (Tryz.lays155_ren.g 1) (by kernel_rfl)
 have hc : Lib.countB (txt s) (txt [0]) ≤ s.length := by
  show Lib.count (txt s).data.toList (txt [0]).data.toList ≤ _
  rw [cd_, cd_, Lib.count_one]; exact count_le_length
 have := Any.strings_ReplaceAll Tryz.lays155 Tryz.Builder_Extra_155 (txt s) (txt [0]) (txt [0, 255]) m w (by rw [cf_]; omega) hm (by rw [cf_]; decide) (by rw [cf_, cf_]; simp only [lc_, ln_]; omega)
 rw [cd_, cd_, cd_, n3_] at this
 exact this
theorem yy_ (n k : Nat) (h : k < (be8 n).length) : (be8 n)[k] = dr_ n (7 - k) := by
 rw [d2_] at h
 rcases (by omega : k = 0 ∨ k = 1 ∨ k = 2 ∨ k = 3 ∨ k = 4 ∨ k = 5 ∨ k = 6 ∨ k = 7) with e | e | e | e | e | e | e | e <;> subst e <;> rfl
theorem pX_ (n k : Nat) (h : k < 8) : (be8 n).take (k + 1) = (be8 n).take k ++ [dr_ n (7 - k)] := by
 rw [take_succ_eq_append_getElem (by rw [d2_]; exact h), yy_]
theorem rI_ (n k : Nat) (h : k = 8) : (be8 n).take k = be8 n := by subst h; rfl
theorem AI_ (n k : Nat) (h : k < 8) : IntKind.u8.wrap ((n : Int).fdiv (2 ^ min (56 - 8 * (k : Int)).toNat 64)) = ((dr_ n (7 - k)).toNat : Int) := by
 have e : (56 - 8 * (k : Int)).toNat = (8 * ((7 - k : Nat) : Int)).toNat := by omega
 rw [e, pz_ _ _ (by omega), mS_]
def Bs_ : LC :=
 .q [.q [.o [.m 6 1, .c1 7 179 6], .k 7 (.q [.o [.m 8 1, .c1 9 181 8, .bk 10 .add false 9 1000000000000000000, .s 11 (.convInt .u64 (.tmp 10)), .m 4 11], .o [.m 12 0, .s 13 (.call 183 [.tmp 12, .const (.int .u8 1)])], .q
 [.o [.ki 5 56], .block 0 (.loop (.q [.q [.o [.m 14 5, .bk 15 .geq false 14 0], .k 15 .skip (.exit 0)], .block 1 (.o [.m 18 0, .m 19 4, .m 20 5, .bb 21 .shr false 19 20, .s 22 (.convInt .u8 (.tmp 21)), .c2 23 183 18 22]),
 .o [.m 16 5, .bk 17 .sub false 16 8, .m 5 17]]))], .ret]) .skip], .o [.m 24 0, .s 25 (.call 183 [.tmp 24, .const (.int .u8 2)])], .o [.m 26 0, .m 27 1, .s 28 (.call 191 [.tmp 27, .const (.string ⟨#[0]⟩), .const (.string
 ⟨#[0, 255]⟩)]), .c2 29 190 26 28], .o [.m 30 0, .s 31 (.call 190 [.tmp 30, .const (.string ⟨#[0, 0]⟩)])]]
def wM_ : LF := ⟨2, 32, Bs_, []⟩
theorem Aq_ : au_ Tryz.prog Tryz.f170 wM_ := ah_
theorem oZ_ {b : Nat} {l : List UInt8} {s : ByteArray} (hs : s.size ≤ 1048576) (hl : l.length ≤ 1000000000) {K : AV → Bd → Prop} (hk : K (.tup []) (some (b, l ++ cz_ (bs s)))) : gG_ Tryz.prog 154 5 170 [mn_ b, .val (.string s)] (some (b, l)) K := by
 refine mg_ (by decide) mixed Tryz.func170 Aq_ rfl ?_
 simp (disch := omega) only [wM_, Bs_, go_sem, ↓reduceIte]
 refine aa_.b rfl (dI_ s hs _) ?_
 have hbl : (bs s).length = s.size := fq_ s
 by_cases q : b7_ (bs s) = true
 ·simp (disch := omega) only [q, go_sem, Nat.reduceEqDiff, ↓reduceIte]
  refine aa_.b rfl (eE_ s hs _) ?_
  have hn := eN_ (bs s)
  have hq := iX_ (bs s)
  have hq2 := i4_ (bs s)
  have hkey : cz_ (bs s) = 1 :: be8 (di_ (bs s)) := by unfold cz_; rw [if_pos q]
  rw [hkey] at hk
  simp (disch := omega) only [go_sem, reduceCtorEq, ↓reduceIte, aq_, ← hq, qH_]
  refine nm_ (c := 1) (by omega) ?_
  simp (disch := omega) only [go_sem]
  refine mA_ (fun n t σ => ∃ k : Nat, t 0 = mn_ b ∧ t 4 = .val (.int .u64 (di_ (bs s))) ∧ t 5 = .val (.int .i64 (56 - 8 * k)) ∧ σ = some (b, (l ++ [1]) ++ (be8 (di_ (bs s))).take k) ∧ n = 8 - k ∧ k ≤ 8) 8 ?_ ?_
  ·exact ⟨0, rfl, rfl, rfl, by simp, rfl, by omega⟩
  ·rintro J hJ n t σ ⟨k, t0, t4, t5, rfl, rfl, hk8⟩
   by_cases h8 : k < 8
   ·have hlt : (0 : Int) ≤ 56 - 8 * k := by omega
    have hlen : ((be8 (di_ (bs s))).take k).length ≤ 8 := by rw [length_take, d2_]; omega
    simp (disch := omega) only [t0, t4, t5, hlt, n5_, AI_, go_sem, Nat.reduceEqDiff, reduceCtorEq, ↓reduceIte]
    refine nm_ (by simp only [la_, lc_]; omega) ?_
    simp (disch := omega) only [t5, aq_, go_sem, Nat.reduceEqDiff, ↓reduceIte]
    exact ⟨8 - (k + 1), by omega, hJ _ _ _ ⟨k + 1, by simp [upd, t0], by simp [upd, t4], by simp [upd]; omega, by rw [pX_ _ _ h8]; simp, rfl, by omega⟩⟩
   ·have hlt : ¬ (0 : Int) ≤ 56 - 8 * k := by omega
    simp (disch := omega) only [t5, hlt, go_sem, ↓reduceIte]
    rw [rI_ _ _ (by omega)]
    simpa using hk
 ·have q' : b7_ (bs s) = false := by simpa using q
  have hkey : cz_ (bs s) = 2 :: (esc (bs s) ++ [0, 0]) := by unfold cz_; rw [if_neg q]
  have he := jO_ (bs s)
  rw [hkey] at hk
  simp (disch := omega) only [q', go_sem, reduceCtorEq, ↓reduceIte]
  refine nm_ (c := 2) (by omega) ?_
  simp (disch := omega) only [go_sem, Nat.reduceEqDiff, reduceCtorEq, ↓reduceIte]
  refine aa_.b rfl (by
   have := ju_ (bs s) (by omega) []
   rw [ez_] at this
   exact this) ?_
  simp (disch := omega) only [go_sem, Nat.reduceEqDiff, ↓reduceIte]
  refine BT_ (by simp only [la_, lc_, ln_]; omega) (fun r1 => ?_)
  simp (disch := omega) only [go_sem, reduceCtorEq, ↓reduceIte]
  refine BT_ (by simp only [la_, lc_, ln_]; omega) (fun r2 => ?_)
  simp (disch := omega) only [go_sem]
  simpa using hk
def jb_ (xs : List ByteArray) : List UInt8 := if bm_ xs = true then cT_ (bss xs) else []
theorem px_ (xs ys : List (List UInt8)) : cT_ (xs ++ ys) = cT_ xs ++ cT_ ys := by simp [cT_]
theorem eR_ {xs : List ByteArray} (h : bm_ xs = true) : xs.length ≤ 4 ∧ ∀ x ∈ xs, 1 ≤ x.size ∧ x.size ≤ 24 := by
 simp only [bm_, Bool.and_eq_true, decide_eq_true_eq, all_eq_true, b0_] at h
 exact ⟨by omega, fun x hx => by have := h.2 x hx; omega⟩
theorem kf_ : ∀ (xs : List ByteArray), (∀ x ∈ xs, x.size ≤ 24) → (cT_ (bss xs)).length ≤ 57 * xs.length
 | [], _ => by simp [cT_, bss]
 | x :: xs, h => by
  have h1 := kv_ (bs x)
  have h2 := kf_ xs (fun y hy => h y (mem_cons_of_mem _ hy))
  have h3 := h x mem_cons_self
  rw [fq_] at h1
  rw [bss, map_cons, og_, la_, lc_]
  simp only [bss] at h2
  simp only [bs] at h1
  omega
def CP_ : LC :=
 .q [.o [.s 2 (.mov (.const (.string ⟨#[]⟩)))], .q [.o [.m 6 0, .c1 7 95 6, .nt 8 7], .k 8 (.q [.o [.s 2 (.mov (.const (.string ⟨#[]⟩)))], .ret]) .skip], .o [.s 3 (.alloc 154 (.agg #[.pointer none, .slice none 0 0]))], .q
 [.o [.m 9 0, .ll 10 9, .ki 11 0], .block 0 (.loop (.q [.o [.bb 12 .lss false 11 10], .k 12 .skip (.exit 0), .block 1 (.q [.o [.ia 13 1 9 11, .ln 14 13, .m 5 14], .o [.m 15 5, .c2 16 170 3 15]]), .o [.bk 17 .add false 11
 1, .m 11 17]]))], .o [.c1 18 171 3, .m 2 18], .ret]
def xa_ : LF := ⟨1, 19, CP_, [.tmp 2]⟩
theorem y9_ : au_ Tryz.prog Tryz.f143 xa_ := ah_
theorem i5_ (xs : List ByteArray) (hx : xs.length ≤ 1048576) (h : List Row) : aa_ Tryz.prog 143 [.list 0 1 (xs.map am_)] h (.val (.string (txt (jb_ xs)))) := by
 refine kB_ (T := 154) (e := 5) rfl rfl ?_ h
 refine mg_ (by decide) mixed Tryz.func143 y9_ rfl ?_
 simp (disch := omega) only [xa_, CP_, go_sem, reduceCtorEq, ↓reduceIte]
 refine aa_.b rfl (ce_ xs hx _) ?_
 by_cases q : bm_ xs = true
 case neg =>
  have q' : bm_ xs = false := by simpa using q
  simp (disch := omega) only [q', go_sem, ↓reduceIte]
  rw [jb_, if_neg q]
 obtain ⟨h4, hm⟩ := eR_ q
 have hz : pv_ = .agg #[.pointer none, .slice none 0 0] := rfl
 simp (disch := omega) only [q, ← hz, go_sem, reduceCtorEq, ↓reduceIte]
 refine fun b => ?_
 refine mA_ (fun n t σ => ∃ k : Nat, t 3 = mn_ b ∧ t 9 = .list 0 1 (xs.map am_) ∧ t 10 = .val (.int .i64 xs.length) ∧ t 11 = .val (.int .i64 k) ∧ σ = some (b, cT_ (bss (xs.take k))) ∧ n = xs.length - k ∧ k ≤ xs.length) xs.length ?_ ?_
 ·exact ⟨0, rfl, rfl, rfl, rfl, rfl, rfl, by omega⟩
 ·rintro J hJ n t σ ⟨k, t3, t9, t10, t11, rfl, rfl, hk⟩
  by_cases hlt : k < xs.length
  ·have hl1 := kf_ (xs.take k) (fun x hx' => (hm x (mem_of_mem_take hx')).2)
   have hl2 : (xs.take k).length ≤ 4 := by rw [length_take]; omega
   simp (disch := omega) only [t3, t9, t10, t11, hlt, go_sem, Nat.reduceEqDiff, ↓reduceIte]
   refine oZ_ (by have := hm _ (getElem_mem hlt); omega) (by omega) ?_
   simp (disch := omega) only [t11, aq_, go_sem, Nat.reduceEqDiff, ↓reduceIte]
   refine ⟨xs.length - (k + 1), by omega, hJ _ _ _ ⟨k + 1, by simp [upd, t3], by simp [upd, t9], by simp [upd, t10], by simp [upd], ?_, rfl, by omega⟩⟩
   rw [take_succ_eq_append_getElem hlt, bss, bss, map_append, px_]
   simp [cT_]
  ·simp (disch := omega) only [t3, t10, t11, hlt, go_sem, Nat.reduceEqDiff, ↓reduceIte]
   rw [take_of_length_le (by omega)]
   refine w3_ ?_
   simp (disch := omega) only [go_sem, ↓reduceIte]
   rw [jb_, if_pos q]
def lb_ : Option (List UInt8 × List UInt8) → AV
 | some (t, r) => .tup [.val (.string (txt t)), .val (.string (txt r)), .val (.bool true)]
 | none => .tup [.val (.string (txt [])), .val (.string (txt [])), .val (.bool false)]
def AM_ : LC :=
 .q [.o [.s 2 (.mov (.const (.string ⟨#[]⟩))), .s 3 (.mov (.const (.string ⟨#[]⟩))), .f 4], .o [.s 5 (.alloc 154 (.agg #[.pointer none, .slice none 0 0]))], .q [.o [.ki 6 0], .block 0 (.loop (.q [.q [.o [.m 7 6, .bk 8
 .add false 7 1, .m 9 0, .s 10 (.lenStr (.tmp 9)), .bb 11 .lss false 8 10], .k 11 .skip (.exit 0)], .block 1 (.q [.q [.o [.m 14 0, .m 15 6, .s 16 (.indexStr (.tmp 14) (.tmp 15)), .s 17 (.bin .neq false (.tmp 16) (.const
 (.int .u8 0)))], .k 17 (.q [.o [.m 18 0, .m 19 6, .s 20 (.indexStr (.tmp 18) (.tmp 19)), .c2 21 183 5 20], .exit 1]) .skip], .o [.m 22 0, .m 23 6, .bk 24 .add false 23 1, .s 25 (.indexStr (.tmp 22) (.tmp 24))], .block 2
 (.q [.o [.s 27 (.bin .eql false (.tmp 25) (.const (.int .u8 0))), .m 26 27], .k 26 (.q [.dops [.c1 28 171 5, .m 29 0, .m 30 6, .bk 31 .add false 30 2, .s 32 (.sliceStr (.tmp 29) (some (.tmp 31)) none), .m 2 28, .m 3 32,
 .t 4], .ret]) (.q [.o [.s 34 (.bin .eql false (.tmp 25) (.const (.int .u8 255))), .m 33 34], .k 33 (.q [.o [.s 35 (.call 183 [.tmp 5, .const (.int .u8 0)])], .o [.m 36 6, .bk 37 .add false 36 1, .m 6 37]]) (.q [.o [.s 2
 (.mov (.const (.string ⟨#[]⟩))), .s 3 (.mov (.const (.string ⟨#[]⟩))), .f 4], .ret])])])]), .o [.m 12 6, .bk 13 .add false 12 1, .m 6 13]]))], .o [.s 2 (.mov (.const (.string ⟨#[]⟩))), .s 3 (.mov (.const (.string
 ⟨#[]⟩))), .f 4], .ret]
def xj_ : LF := ⟨1, 38, AM_, [.tmp 2, .tmp 3, .tmp 4]⟩
theorem zD_ : au_ Tryz.prog Tryz.f161 xj_ := ah_
theorem lM_ (l : List UInt8) (hl : l.length ≤ 1048576) (h : List Row) : aa_ Tryz.prog 161 [.val (.string (txt l))] h (lb_ (cv_ l [])) := by
 refine kB_ (T := 154) (e := 5) (by cases cv_ l [] <;> rfl) rfl ?_ h
 refine mg_ (by decide) mixed Tryz.func161 zD_ rfl ?_
 have hz : pv_ = .agg #[.pointer none, .slice none 0 0] := rfl
 simp (disch := omega) only [xj_, AM_, ← hz, go_sem]
 refine fun b => ?_
 refine mA_ (fun n t σ => ∃ (i : Nat) (acc : List UInt8), t 0 = .val (.string (txt l)) ∧ t 5 = mn_ b ∧ t 6 = .val (.int .i64 i) ∧ σ = some (b, acc) ∧ n = l.length - i ∧ i ≤ l.length ∧ acc.length ≤ i ∧ cv_ l [] = cv_ (l.drop i) acc) l.length ?_ ?_
 ·exact ⟨0, [], rfl, rfl, rfl, rfl, rfl, by omega, Nat.le_refl _, rfl⟩
 ·rintro J hJ n t σ ⟨i, acc, t0, t5, t6, rfl, rfl, hi, hac, hS⟩
  by_cases hlt : i + 1 < l.length
  ·have hlt' : (i : Int) + 1 < l.length := by omega
   have hlt0 : i < l.length := by omega
   have ei : (i : Int) + 1 = ((i + 1 : Nat) : Int) := by omega
   have ei2 : (i : Int) + 2 = ((i + 2 : Nat) : Int) := by omega
   rw [m9_ l acc i hlt] at hS
   by_cases q : l[i] = 0
   ·rw [if_pos q] at hS
    have q' : ((l[i].toNat : Int) = 0) = True := by simp [q]
    by_cases q1 : l[i + 1] = 0
    ·rw [if_pos q1] at hS
     have q1' : ((l[i + 1].toNat : Int) = 0) = True := by simp [q1]
     simp (disch := omega) only [t0, t5, t6, ei, ei2, hlt, q', q1', aq_, go_sem, reduceEqDiff, reduceCtorEq, ↓reduceIte]
     refine ⟨_, w3_ ⟨rfl, rfl⟩, ?_⟩
     rw [hS, take_length]; rfl
    ·rw [if_neg q1] at hS
     have q1' : ((l[i + 1].toNat : Int) = 0) = False := by rw [eq_iff_iff, iff_false]; intro e; exact q1 (UInt8.toNat_inj.1 (by have h2 : (0 : UInt8).toNat = 0 := rfl; omega))
     by_cases q2 : l[i + 1] = 255
     ·rw [if_pos q2] at hS
      have q2' : ((l[i + 1].toNat : Int) = 255) = True := by simp [q2]
      simp (disch := omega) only [t0, t5, t6, ei, hlt, q', q1', q2', aq_, go_sem, reduceEqDiff, reduceCtorEq, ↓reduceIte]
      refine nm_ (c := 0) (by omega) ?_
      simp (disch := omega) only [t6, ei, aq_, go_sem, reduceEqDiff, ↓reduceIte]
      exact ⟨l.length - (i + 2), by omega, hJ _ _ _ ⟨i + 2, acc ++ [0], by simp [upd, t0], by simp [upd, t5], by simp [upd]; omega, rfl, rfl, by omega, by simp; omega, hS⟩⟩
     ·rw [if_neg q2] at hS
      have q2' : ((l[i + 1].toNat : Int) = 255) = False := by rw [eq_iff_iff, iff_false]; intro e; exact q2 (UInt8.toNat_inj.1 (by have h2 : (255 : UInt8).toNat = 255 := rfl; omega))
      simp (disch := omega) only [t0, t6, ei, hlt, q', q1', q2', aq_, go_sem, reduceEqDiff, reduceCtorEq, ↓reduceIte]
      rw [hS]; rfl
   ·rw [if_neg q] at hS
    have q' : ((l[i].toNat : Int) = 0) = False := by rw [eq_iff_iff, iff_false]; intro e; exact q (UInt8.toNat_inj.1 (by have h2 : (0 : UInt8).toNat = 0 := rfl; omega))
    simp (disch := omega) only [t0, t5, t6, ei, hlt, q', aq_, go_sem, reduceEqDiff, reduceCtorEq, ↓reduceIte]
    refine nm_ (c := l[i]) (by omega) ?_
    simp (disch := omega) only [t6, ei, aq_, go_sem, reduceEqDiff, ↓reduceIte]
    exact ⟨l.length - (i + 1), by omega, hJ _ _ _ ⟨i + 1, acc ++ [l[i]], by simp [upd, t0], by simp [upd, t5], by simp [upd]; try omega, rfl, rfl, by omega, by simp; omega, hS⟩⟩
  ·have hlt' : ¬ (i : Int) + 1 < l.length := by omega
   simp (disch := omega) only [t0, t6, hlt', aq_, go_sem, reduceEqDiff, reduceCtorEq, ↓reduceIte]
   rw [hS, ot_ l acc i (by omega)]; rfl
def nQ_ (l : List UInt8) : Option (List UInt8 × List UInt8) := if l.length < 8 then none else if 2000000000000000000 < cs_ 0 (l.take 8) then none else some (g2_ ((cs_ 0 (l.take 8) : Int) - 1000000000000000000), l.drop 8)
theorem EB_ (q : Bool) (a : Int) : bl_ .shl q (.val (.int .u64 a)) (.val (.int .u64 8)) = some (.val (.int .u64 (IntKind.u64.wrap (a * 256)))) := by
 rw [rP_ _ _ _ _ _ (by decide)]; rfl
theorem od_ (l : List UInt8) (k : Nat) (h : k < l.length) : cs_ 0 (l.take (k + 1)) = cs_ 0 (l.take k) * 256 + l[k].toNat := by
 rw [take_succ_eq_append_getElem h, t8_]
theorem lq_ (l : List UInt8) (k : Nat) (h : k ≤ 7) : cs_ 0 (l.take k) < 72057594037927936 := by
 have h1 := nS_ (l.take k) 0
 have h2 : (l.take k).length ≤ 7 := by rw [length_take]; omega
 have h3 : 256 ^ (l.take k).length ≤ 256 ^ 7 := Nat.pow_le_pow_right (by decide) h2
 omega
theorem kw_ (l : List UInt8) : cs_ 0 (l.take 8) < 18446744073709551616 := by
 have h1 := nS_ (l.take 8) 0
 have h2 : (l.take 8).length ≤ 8 := by rw [length_take]; omega
 have h3 : 256 ^ (l.take 8).length ≤ 256 ^ 8 := Nat.pow_le_pow_right (by decide) h2
 omega
theorem sF_ (n : Int) : ff_ n = g2_ n := by
 unfold ff_ g2_
 by_cases h : jz_ n = true
 ·rw [if_pos h, if_pos ((hQ_ n).1 h)]
 ·rw [if_neg h, if_neg (fun q => h ((hQ_ n).2 q))]
def zs_ : LC :=
 .q [.o [.s 2 (.mov (.const (.string ⟨#[]⟩))), .s 3 (.mov (.const (.string ⟨#[]⟩))), .f 4], .q [.o [.m 7 0, .s 8 (.lenStr (.tmp 7)), .bk 9 .lss false 8 8], .k 9 (.q [.o [.s 2 (.mov (.const (.string ⟨#[]⟩))), .s 3 (.mov
 (.const (.string ⟨#[]⟩))), .f 4], .ret]) .skip], .o [.s 5 (.mov (.const (.int .u64 0)))], .q [.o [.ki 10 0], .block 0 (.loop (.q [.o [.bk 11 .lss false 10 8], .k 11 .skip (.exit 0), .block 1 (.q [.o [.m 12 10, .m 6 12],
 .o [.m 13 5, .s 14 (.bin .shl false (.tmp 13) (.const (.int .u64 8))), .m 15 0, .m 16 6, .s 17 (.indexStr (.tmp 15) (.tmp 16)), .s 18 (.convInt .u64 (.tmp 17)), .bb 19 .add false 14 18, .m 5 19]]), .o [.bk 20 .add false
 10 1, .m 10 20]]))], .q [.o [.m 21 5, .s 22 (.bin .gtr false (.tmp 21) (.const (.int .u64 2000000000000000000)))], .k 22 (.q [.o [.s 2 (.mov (.const (.string ⟨#[]⟩))), .s 3 (.mov (.const (.string ⟨#[]⟩))), .f 4], .ret])
 .skip], .dops [.m 23 5, .s 24 (.convInt .i64 (.tmp 23)), .bk 25 .sub false 24 1000000000000000000, .c1 26 182 25, .m 27 0, .s 28 (.sliceStr (.tmp 27) (some (.const (.int .i64 8))) none), .m 2 26, .m 3 28, .t 4], .ret]
def w0_ : LF := ⟨1, 29, zs_, [.tmp 2, .tmp 3, .tmp 4]⟩
theorem z2_ : au_ Tryz.prog Tryz.f160 w0_ := ah_
theorem lJ_ (l : List UInt8) (hl : l.length ≤ 1048576) (h : List Row) : aa_ Tryz.prog 160 [.val (.string (txt l))] h (lb_ (nQ_ l)) := by
 refine aj_ mixed Tryz.func160 z2_ rfl rfl ?_ h
 simp (disch := omega) only [w0_, zs_, go_sem, reduceCtorEq, ↓reduceIte]
 by_cases h8 : (l.length : Int) < 8
 ·simp (disch := omega) only [h8, go_sem, reduceEqDiff, ↓reduceIte]
  rw [nQ_, if_pos (by omega)]
  exact ⟨2, rfl⟩
 simp (disch := omega) only [h8, go_sem]
 refine aP_ (fun n t h => ∃ k : Nat, t 0 = .val (.string (txt l)) ∧ t 5 = .val (.int .u64 (cs_ 0 (l.take k))) ∧ t 10 = .val (.int .i64 k) ∧ h = [] ∧ n = 8 - k ∧ k ≤ 8) 8 ?_ ?_
 ·exact ⟨0, rfl, rfl, rfl, rfl, rfl, by omega⟩
 rintro J hJ n t h ⟨k, t0, t5, t10, rfl, rfl, hk⟩
 by_cases hlt : k < 8
 ·have hkl : k < l.length := by omega
  have hkI : (k : Int) < 8 := by omega
  have hb := lq_ l k (by omega)
  have hu := mN_ l[k]
  simp (disch := omega) only [t0, t5, t10, hkI, EB_, uN_, qH_, aq_, go_sem, reduceEqDiff, reduceCtorEq, ↓reduceIte]
  exact ⟨8 - (k + 1), by omega, hJ _ _ _ ⟨k + 1, by simp [upd, t0], by simp only [upd]; rw [od_ l k hkl]; simp, by simp [upd], rfl, rfl, by omega⟩⟩
 ·have hk8 : k = 8 := by omega
  have hkI : ¬ (k : Int) < 8 := by omega
  rw [hk8] at t5
  have hb := kw_ l
  by_cases hg : (2000000000000000000 : Int) < (cs_ 0 (l.take 8) : Nat)
  ·simp (disch := omega) only [t5, t10, hkI, hg, go_sem, reduceEqDiff, ↓reduceIte]
   rw [nQ_, if_neg (by omega), if_pos (by omega)]
   exact ⟨2, rfl⟩
  ·simp (disch := omega) only [t0, t5, t10, hkI, hg, aq_, go_sem, reduceEqDiff, reduceCtorEq, Int.reduceLE, Int.reduceToNat, ↓reduceIte]
   refine aa_.q (iz_ _ _) ?_
   rw [nQ_, if_neg (by omega), if_neg (by omega), sF_, take_length]
   exact ⟨2, rfl⟩
abbrev ec_ (out : List (List UInt8)) : List (List AV) := (out.map txt).map am_
theorem qp_ (out : List (List UInt8)) : bss (out.map txt) = out := by
 rw [bss, map_map]
 conv => rhs; rw [← map_id out]
 exact map_congr_left fun x _ => cd_ x
theorem el_ (out : List (List UInt8)) : bm_ (out.map txt) = eP_ out := by
 rw [Bool.eq_iff_iff]
 simp only [bm_, eP_, b0_, Ae_, length_map, all_map, Bool.and_eq_true, decide_eq_true_eq, all_eq_true, Function.comp, cf_]
 constructor
 ·rintro ⟨h1, h2⟩
  exact ⟨by omega, fun x hx => by have := h2 x hx; omega⟩
 ·rintro ⟨h1, h2⟩
  exact ⟨by omega, fun x hx => by have := h2 x hx; omega⟩
theorem gc_ (l : List UInt8) (h : 0 < l.length) : dV_ l = if l[0] = 1 then nQ_ (l.drop 1) else if l[0] = 2 then cv_ (l.drop 1) [] else none := by
 cases l with
 | nil => simp at h
 | cons b l => rfl
theorem jl_ : lb_ none = .tup [.val (.string (txt [])), .val (.string (txt [])), .val (.bool false)] := rfl
theorem jp_ (t r : List UInt8) : lb_ (some (t, r)) = .tup [.val (.string (txt t)), .val (.string (txt r)), .val (.bool true)] := rfl
def dW_ (s : ByteArray) : List ByteArray × Bool :=
 match gb_ dV_ (bs s) with
 | some xs => (xs.map txt, true)
 | none => ([], false)
abbrev pj_ (p : List ByteArray × Bool) : AV := .tup [.list 0 1 (p.1.map am_), .val (.bool p.2)]
theorem kQ_ {s : ByteArray} (h : cV_ dV_ 5 (bs s) [] = none) : dW_ s = ([], false) := by
 rw [dW_, gb_, h]
theorem nZ_ {s : ByteArray} {out : List (List UInt8)} {left : List UInt8} (h : cV_ dV_ 5 (bs s) [] = some (out, left)) (q : ¬ (left = [] ∧ eP_ out = true ∧ cT_ out = bs s)) : dW_ s = ([], false) := by
 rw [dW_, gb_, h]; simp only; rw [if_neg q]
theorem we_ {s : ByteArray} {out : List (List UInt8)} (h : cV_ dV_ 5 (bs s) [] = some (out, [])) (h2 : eP_ out = true) (h3 : cT_ out = bs s) : dW_ s = (out.map txt, true) := by
 simp [dW_, gb_, h, h2, h3]
theorem uD_ {out : List (List UInt8)} (h : eP_ out = true) : out.length ≤ 4 := by
 simp only [eP_, Bool.and_eq_true, decide_eq_true_eq] at h; exact h.1
theorem oO_ (out : List (List UInt8)) : ∀ e ∈ ec_ out, e.all AV.flat = true := by
 intro e he
 obtain ⟨x, _, q⟩ := mem_map.1 he; subst q; rfl
theorem qB_ (h0 : List Row) (out : List (List UInt8)) (rest : List Row) : [AV.own h0.length out.length].mapM (AW.resolve (h0 ++ ⟨9, 1, ec_ out⟩ :: rest) 2) = some [.list 0 1 (ec_ out)] :=
 pD_ (lC_ (n := 0) (r := ⟨9, 1, ec_ out⟩) (by rw [b4_]; rfl) (by simp) (oO_ out))
theorem fw_ {base l : Nat} {H : List Row} {E : Tag} {out : List ByteArray} (hl : H[l]? = some ⟨E, 1, out.map am_⟩) (hb : base ≤ l) : ay_ base (l + 1) H (.own l out.length) (.list 0 1 (out.map am_)) :=
 ay_.mkown (lo := l + 1) (hi := l + 1) (bn_.ofVals _ _ _ _ (by
  intro e he c hc
  obtain ⟨x, _, q⟩ := mem_map.1 he; subst q
  simp only [am_, mem_singleton] at hc
  exact ⟨_, hc⟩)) hl (by simp) hb (Nat.lt_succ_self _) (Nat.le_refl _)
theorem c3_ {lo hi : Nat} {H : List Row} {a r : AV} (h : ay_ lo hi H a r) (hlh : lo ≤ hi) (v : Value) : dw_ lo H (.tup [a, .val v]) (.tup [r, .val v]) :=
 (ay_.tup (ak_.cons h (ak_.val v (ak_.nil hi hi H)) ⟨hlh, Nat.le_refl _⟩)).fresh
theorem tC_ {out : List (List UInt8)} (h : eP_ out = true) : jb_ (out.map txt) = cT_ out := by
 rw [jb_, el_, if_pos h, qp_]
theorem oy_ (take : List UInt8 → Option (List UInt8 × List UInt8)) (f : Nat) (l : List UInt8) (out : List (List UInt8)) (h : l ≠ []) : cV_ take (f + 1) l out = match take l with
 | none => none
 | some (t, r) => cV_ take f r (out ++ [t]) := by
 rw [cV_, if_neg h]; cases take l <;> rfl
theorem lS_ (l : List UInt8) : (txt l = txt []) = (l = []) := rH_ l []
def zH_ : LC :=
 .q [.o [.nl 2, .f 3], .o [.s 8 (.buildSlice 9 1 (.string ⟨#[]⟩) 0 []), .m 9 0, .m 4 8, .m 5 9], .block 0 (.loop (.q [.q [.o [.m 10 5, .s 11 (.bin .neq false (.tmp 10) (.const (.string ⟨#[]⟩))), .m 12 11, .gm 13 12 true
 4, .g 14 12 true (.lenSl (.tmp 13)), .g 15 12 true (.bin .leq false (.tmp 14) (.const (.int .i64 4))), .pf 16 12 15], .k 16 .skip (.exit 0)], .block 1 (.q [.o [.s 6 (.mov (.const (.string ⟨#[]⟩)))], .o [.f 7], .q [.o [.m
 17 5, .s 18 (.indexStr (.tmp 17) (.const (.int .i64 0)))], .block 2 (.q [.o [.s 20 (.bin .eql false (.tmp 18) (.const (.int .u8 1))), .m 19 20], .k 19 (.o [.m 22 5, .s 23 (.sliceStr (.tmp 22) (some (.const (.int .i64
 1))) none), .c1 24 160 23, .m 21 24, .ex 25 21 0, .ex 26 21 1, .ex 27 21 2, .m 6 25, .m 5 26, .m 7 27]) (.q [.o [.s 29 (.bin .eql false (.tmp 18) (.const (.int .u8 2))), .m 28 29], .k 28 (.o [.m 31 5, .s 32 (.sliceStr
 (.tmp 31) (some (.const (.int .i64 1))) none), .c1 33 161 32, .m 30 33, .ex 34 30 0, .ex 35 30 1, .ex 36 30 2, .m 6 34, .m 5 35, .m 7 36]) .skip])])], .q [.o [.m 37 7, .nt 38 37], .k 38 (.q [.o [.nl 2, .f 3], .ret])
 .skip], .o [.m 39 4, .m 40 6, .s 41 (.buildSlice 9 1 (.string ⟨#[]⟩) 1 [(0, .tmp 40)]), .ap 42 9 1 16 39 41, .m 4 42]])])), .q [.o [.m 43 4, .c1 44 95 43, .nt 45 44, .m 46 45, .gm 47 46 false 4, .gc 48 46 false 143 47,
 .gm 49 46 false 0, .g 50 46 false (.bin .neq false (.tmp 48) (.tmp 49)), .pt 51 46 50], .k 51 (.q [.o [.nl 2, .f 3], .ret]) .skip], .o [.m 52 4, .m 2 52, .t 3], .ret]
def xc_ : LF := ⟨1, 53, zH_, [.tmp 2, .tmp 3]⟩
theorem AG_ : au_ Tryz.prog Tryz.f132 xc_ := ah_
theorem lB_ (s : ByteArray) (hs : s.size ≤ 1048576) : aQ_ Tryz.prog 132 [.val (.string s)] (pj_ (dW_ s)) (fun a => ∃ b q, a = .tup [b, .val (.bool q)]) := by
 refine dn_ mixed Tryz.func132 AG_ rfl (fun h0 => ?_)
 have hbl := fq_ s
 simp (disch := omega) only [xc_, zH_, go_sem, reduceEqDiff, reduceCtorEq, ↓reduceIte]
 refine aP_ (fun n t h => ∃ (out : List (List UInt8)) (left : List UInt8) (rest : List Row), t 0 = .val (.string s) ∧ t 4 = .own h0.length out.length ∧ t 5 = .val (.string (txt left)) ∧ h = h0 ++ ⟨9, 1, ec_ out⟩ :: rest ∧ n = 5 - out.length ∧ out.length ≤ 5 ∧ left.length ≤ s.size ∧ cV_ dV_ 5 (bs s) [] = cV_ dV_ (5 - out.length) left out) 5 ?_ ?_
 ·exact ⟨[], bs s, [], rfl, rfl, by rw [ez_]; rfl, rfl, rfl, by simp, Nat.le_of_eq (fq_ s), rfl⟩
 rintro J hJ n t h ⟨out, left, rest, t0, t4, t5, rfl, rfl, ho, hle, hS⟩
 have fl : (ec_ out).length = out.length := by simp
 have hA := qB_ h0 out rest
 by_cases q0 : left = []
 ·subst q0
  have hR : cV_ dV_ 5 (bs s) [] = some (out, []) := by
   rw [hS]; cases 5 - out.length with
   | zero => rw [cV_]
   | succ f => rw [cV_, if_pos rfl]
  have q0' : (txt ([] : List UInt8) = txt []) = True := by simp
  simp (disch := omega) only [t4, t5, fl, ag_, go_sem, reduceEqDiff, reduceLeDiff, Int.reduceLE, Int.reduceToNat, ↓reduceIte]
  refine aa_.call (AW.frozen (ce_ (out.map txt) (by simp; omega)) hA) ?_
  by_cases s1 : eP_ out = true
  case neg =>
   have s1' : bm_ (out.map txt) = false := by rw [el_]; simpa using s1
   simp (disch := omega) only [t4, s1', ag_, go_sem, reduceEqDiff, ↓reduceIte]
   rw [nZ_ hR (fun q => s1 q.2.1)]
   exact ⟨_, rfl, c3_ (ay_.mknil _ _ _ 1) (Nat.le_refl _) _, _, _, rfl⟩
  have s1' : bm_ (out.map txt) = true := by rw [el_]; exact s1
  simp (disch := omega) only [t4, s1', go_sem, reduceEqDiff, ↓reduceIte]
  refine aa_.call (AW.frozen (i5_ (out.map txt) (by simp; omega)) hA) ?_
  rw [tC_ s1]
  by_cases s2 : cT_ out = bs s
  case neg =>
   have s2' : (txt (cT_ out) = s) = False := by rw [eq_iff_iff, iff_false]; intro e; exact s2 (by rw [← e]; exact (cd_ _).symm)
   simp (disch := omega) only [t0, t4, s2', ag_, go_sem, reduceEqDiff, reduceCtorEq, ↓reduceIte]
   rw [nZ_ hR (fun q => s2 q.2.2)]
   exact ⟨_, rfl, c3_ (ay_.mknil _ _ _ 1) (Nat.le_refl _) _, _, _, rfl⟩
  have s2' : (txt (cT_ out) = s) = True := by rw [s2, ez_]; simp
  simp (disch := omega) only [t0, t4, s2', ag_, go_sem, reduceEqDiff, reduceCtorEq, ↓reduceIte]
  rw [we_ hR s1 s2]
  have hz := c3_ (fw_ (base := h0.length) (l := h0.length) (E := 9) (out := out.map txt) (H := h0 ++ ⟨9, 1, ec_ out⟩ :: rest) (by rw [b4_]; rfl) (Nat.le_refl _)) (by omega) (.bool true)
  rw [length_map] at hz
  exact ⟨_, rfl, hz, _, _, rfl⟩
 ·have hpos : 0 < left.length := by cases left with
   | nil => exact absurd rfl q0
   | cons b l => simp
  have q0' : (txt left = txt []) = False := by rw [lS_]; simp [q0]
  by_cases q4 : out.length ≤ 4
  ·have q4' : (out.length : Int) ≤ 4 := by omega
   have e5 : 5 - out.length = (4 - out.length) + 1 := by omega
   rw [e5, oy_ dV_ (4 - out.length) left out q0] at hS
   have hdl : (left.drop 1).length ≤ 1048576 := by rw [length_drop]; omega
   by_cases q1 : left[0] = 1
   ·have q1' : ((left[0].toNat : Int) = 1) = True := by simp [q1]
    simp (disch := omega) only [t4, t5, q0', q4', q1', fl, take_length, ag_, go_sem, reduceEqDiff, reduceLeDiff, Int.reduceLE, Int.reduceToNat, ↓reduceIte]
    have hc := fun h => lJ_ (left.drop 1) hdl h
    cases hn : nQ_ (left.drop 1) with
    | none =>
     rw [hn, jl_] at hc
     rw [gc_ left hpos, if_pos q1, hn] at hS
     refine aa_.call (hc _) ?_
     simp (disch := omega) only [t4, fl, ag_, go_sem, reduceEqDiff, reduceLeDiff, ↓reduceIte]
     rw [kQ_ (by rw [hS])]
     exact ⟨_, rfl, c3_ (ay_.mknil _ _ _ 1) (Nat.le_refl _) _, _, _, rfl⟩
    | some p =>
     obtain ⟨x, r⟩ := p
     rw [hn, jp_] at hc
     have hlen := oH_ left x r (by rw [gc_ left hpos, if_pos q1, hn])
     rw [gc_ left hpos, if_pos q1, hn] at hS
     refine aa_.call (hc _) ?_
     simp (disch := omega) only [t4, fl, ag_, go_sem, reduceEqDiff, reduceLeDiff, ↓reduceIte]
     refine ⟨by omega, by omega, ?_⟩
     try simp (disch := omega) only [t0, t4, t5, q0', q4', fl, ag_, go_sem, reduceEqDiff, Nat.reduceAdd, reduceLeDiff, reduceCtorEq, Int.reduceLT, Int.reduceLE, Int.reduceNeg, Int.reduceSub, Int.reduceAdd, Int.reduceToNat, ↓reduceIte]
     exact ⟨5 - (out.length + 1), by omega, hJ _ _ _ ⟨out ++ [x], r, rest ++ [⟨9, 1, [[.val (.string (txt x))]]⟩], by simp [upd, t0], by simp [upd], by simp [upd], by simp [am_], by simp, by simp; omega, by omega, by simpa [Nat.sub_sub] using hS⟩⟩
   ·have q1' : ((left[0].toNat : Int) = 1) = False := by rw [eq_iff_iff, iff_false]; intro e; exact q1 (UInt8.toNat_inj.1 (by have h2 : (1 : UInt8).toNat = 1 := rfl; omega))
    by_cases q2 : left[0] = 2
    ·have q2' : ((left[0].toNat : Int) = 2) = True := by simp [q2]
     simp (disch := omega) only [t4, t5, q0', q4', q1', q2', fl, take_length, ag_, go_sem, reduceEqDiff, reduceLeDiff, Int.reduceLE, Int.reduceToNat, ↓reduceIte]
     have hc := fun h => lM_ (left.drop 1) hdl h
     cases hn : cv_ (left.drop 1) [] with
     | none =>
      rw [hn, jl_] at hc
      rw [gc_ left hpos, if_neg q1, if_pos q2, hn] at hS
      refine aa_.call (hc _) ?_
      simp (disch := omega) only [t4, fl, ag_, go_sem, reduceEqDiff, reduceLeDiff, ↓reduceIte]
      rw [kQ_ (by rw [hS])]
      exact ⟨_, rfl, c3_ (ay_.mknil _ _ _ 1) (Nat.le_refl _) _, _, _, rfl⟩
     | some p =>
      obtain ⟨x, r⟩ := p
      rw [hn, jp_] at hc
      have hlen := oH_ left x r (by rw [gc_ left hpos, if_neg q1, if_pos q2, hn])
      rw [gc_ left hpos, if_neg q1, if_pos q2, hn] at hS
      refine aa_.call (hc _) ?_
      simp (disch := omega) only [t4, fl, ag_, go_sem, reduceEqDiff, reduceLeDiff, ↓reduceIte]
      refine ⟨by omega, by omega, ?_⟩
      try simp (disch := omega) only [t0, t4, t5, q0', q4', fl, ag_, go_sem, reduceEqDiff, Nat.reduceAdd, reduceLeDiff, reduceCtorEq, Int.reduceLT, Int.reduceLE, Int.reduceNeg, Int.reduceSub, Int.reduceAdd, Int.reduceToNat, ↓reduceIte]
      exact ⟨5 - (out.length + 1), by omega, hJ _ _ _ ⟨out ++ [x], r, rest ++ [⟨9, 1, [[.val (.string (txt x))]]⟩], by simp [upd, t0], by simp [upd], by simp [upd], by simp [am_], by simp, by simp; omega, by omega, by simpa [Nat.sub_sub] using hS⟩⟩
    ·have q2' : ((left[0].toNat : Int) = 2) = False := by rw [eq_iff_iff, iff_false]; intro e; exact q2 (UInt8.toNat_inj.1 (by have h2 : (2 : UInt8).toNat = 2 := rfl; omega))
     rw [gc_ left hpos, if_neg q1, if_neg q2] at hS
     simp (disch := omega) only [t4, t5, q0', q4', q1', q2', fl, take_length, ag_, go_sem, reduceEqDiff, reduceLeDiff, Int.reduceLE, Int.reduceToNat, ↓reduceIte]
     rw [kQ_ (by rw [hS])]
     exact ⟨_, rfl, c3_ (ay_.mknil _ _ _ 1) (Nat.le_refl _) _, _, _, rfl⟩
  ·have q4' : ¬ (out.length : Int) ≤ 4 := by omega
   have e0 : 5 - out.length = 0 := by omega
   have hR : cV_ dV_ 5 (bs s) [] = some (out, left) := by rw [hS, e0, cV_]
   have s1 : ¬ eP_ out = true := fun q => q4 (uD_ q)
   simp (disch := omega) only [t4, t5, q0', q4', fl, ag_, go_sem, reduceEqDiff, reduceLeDiff, Int.reduceLE, Int.reduceToNat, ↓reduceIte]
   refine aa_.call (AW.frozen (ce_ (out.map txt) (by simp; omega)) hA) ?_
   have s1' : bm_ (out.map txt) = false := by rw [el_]; simpa using s1
   simp (disch := omega) only [t4, s1', ag_, go_sem, reduceEqDiff, ↓reduceIte]
   rw [nZ_ hR (fun q => s1 q.2.1)]
   exact ⟨_, rfl, c3_ (ay_.mknil _ _ _ 1) (Nat.le_refl _) _, _, _, rfl⟩
theorem iU_ (s : ByteArray) (hs : s.size ≤ 1048576) (h : List Row) : aa_ Tryz.prog 132 [.val (.string s)] h (pj_ (dW_ s)) := (lB_ s hs).pure rfl h
theorem Da_ (q : Bool) (a : Int) : bl_ .shl q (.val (.int .i64 a)) (.val (.int .u64 8)) = some (.val (.int .i64 (IntKind.i64.wrap (a * 256)))) := by
 rw [rP_ _ _ _ _ _ (by decide)]; rfl
theorem or8 (q : Bool) (x b : Nat) (h : b < 256) (hx : x < 72057594037927936) : bl_ .or q (.val (.int .i64 (IntKind.i64.wrap ((IntKind.i64.wrap (x : Int)) * 256)))) (.val (.int .i64 (b : Int))) = some (.val (.int .i64 (IntKind.i64.wrap ((x * 256 + b : Nat) : Int)))) := by
 have h8 : (2 : Int) ^ (min (8 : Int).toNat 64) = 256 := by decide
 have := x1_ x b h (by omega)
 rw [h8] at this
 rw [yd_, this, Nat.mod_eq_of_lt (by omega)]
theorem EA_ (q : Bool) (x b : Nat) (h : b < 256) (hx : x < 72057594037927936) : bl_ .or q (.val (.int .i64 (IntKind.i64.wrap ((x : Int) * 256)))) (.val (.int .i64 (b : Int))) = some (.val (.int .i64 (IntKind.i64.wrap ((x * 256 + b : Nat) : Int)))) := by
 have := or8 q x b h hx
 rwa [aq_ (n := (x : Int)) (by omega) (by omega)] at this
def An_ : LC :=
 .q [.o [.ki 2 0], .o [.ki 3 0], .q [.o [.ki 4 0], .block 0 (.loop (.q [.q [.o [.m 5 4, .bk 6 .lss false 5 8], .k 6 .skip (.exit 0)], .block 1 (.o [.m 9 3, .s 10 (.bin .shl false (.tmp 9) (.const (.int .u64 8))), .m 11 0,
 .m 12 4, .s 13 (.indexStr (.tmp 11) (.tmp 12)), .s 14 (.convInt .i64 (.tmp 13)), .bb 15 .or false 10 14, .m 3 15]), .o [.m 7 4, .bk 8 .add false 7 1, .m 4 8]]))], .o [.m 16 3, .m 2 16], .ret]
def xM_ : LF := ⟨1, 17, An_, [.tmp 2]⟩
theorem B5_ : au_ Tryz.prog Tryz.f146 xM_ := ah_
theorem nD_ (l : List UInt8) (hl : l.length = 8) (h : List Row) : aa_ Tryz.prog 146 [.val (.string (txt l))] h (.val (.int .i64 (IntKind.i64.wrap (cs_ 0 l)))) := by
 refine aj_ mixed Tryz.func146 B5_ rfl rfl ?_ h
 simp (disch := omega) only [xM_, An_, go_sem]
 refine aP_ (fun n t h => ∃ k : Nat, t 0 = .val (.string (txt l)) ∧ t 3 = .val (.int .i64 (IntKind.i64.wrap (cs_ 0 (l.take k)))) ∧ t 4 = .val (.int .i64 k) ∧ h = [] ∧ n = 8 - k ∧ k ≤ 8) 8 ?_ ?_
 ·exact ⟨0, rfl, by rw [take_zero, p2_]; rfl, rfl, rfl, rfl, by omega⟩
 rintro J hJ n t h ⟨k, t0, t3, t4, rfl, rfl, hk⟩
 by_cases hlt : k < 8
 ·have hkl : k < l.length := by omega
  have hkI : (k : Int) < 8 := by omega
  have hb := lq_ l k (by omega)
  have hu := mN_ l[k]
  simp (disch := omega) only [t0, t3, t4, hkI, Da_, EA_, aq_, go_sem, reduceEqDiff, reduceCtorEq, ↓reduceIte]
  exact ⟨8 - (k + 1), by omega, hJ _ _ _ ⟨k + 1, by simp [upd, t0], by rw [od_ l k hkl]; simp [upd], by simp [upd], rfl, rfl, by omega⟩⟩
 ·have hkI : ¬ (k : Int) < 8 := by omega
  simp (disch := omega) only [t3, t4, hkI, go_sem, reduceEqDiff, ↓reduceIte]
  rw [take_of_length_le (by omega)]
  exact ⟨1, rfl⟩
theorem vh_ (l : List UInt8) (h : 0 < l.length) : du_ l = if l[0] = 1 ∧ 9 ≤ l.length then (if 1 ≤ cs_ 0 ((l.drop 1).take 8) ∧ cs_ 0 ((l.drop 1).take 8) ≤ 1999999999999999999 then some (b8_ ((cs_ 0 ((l.drop 1).take 8) : Int) - 1000000000000000000), (l.drop 1).drop 8) else none) else if l[0] = 2 then cv_ (l.drop 1) [] else none := by
 cases l with
 | nil => simp at h
 | cons b l =>
  have e : (9 ≤ (b :: l).length) = (8 ≤ l.length) := by simp
  rw [du_]
  simp only [e, getElem_cons_zero, drop_succ_cons, drop_zero]
theorem q1_ (N : Nat) (h : N < 18446744073709551616) : ds_ (IntKind.i64.wrap (N : Int)) 1 1999999999999999999 = decide (1 ≤ N ∧ N ≤ 1999999999999999999) := by
 rw [ds_, IntKind.wrap_i64, Bool.eq_iff_iff]
 simp only [Bool.and_eq_true, decide_eq_true_eq]
 omega
def BV_ : LC :=
 .q [.o [.s 2 (.mov (.const (.string ⟨#[]⟩))), .s 3 (.mov (.const (.string ⟨#[]⟩))), .f 4], .q [.o [.m 8 0, .s 9 (.indexStr (.tmp 8) (.const (.int .i64 0))), .s 10 (.bin .eql false (.tmp 9) (.const (.int .u8 1))), .m 11
 10, .gm 12 11 true 0, .g 13 11 true (.lenStr (.tmp 12)), .g 14 11 true (.bin .geq false (.tmp 13) (.const (.int .i64 9))), .pf 15 11 14], .k 15 (.q [.o [.m 16 0, .s 17 (.sliceStr (.tmp 16) (some (.const (.int .i64 1)))
 (some (.const (.int .i64 9)))), .c1 18 146 17, .m 5 18], .q [.o [.m 19 5, .s 20 (.call 70 [.tmp 19, .const (.int .i64 1), .const (.int .i64 1999999999999999999)]), .nt 21 20], .k 21 (.q [.o [.s 2 (.mov (.const (.string
 ⟨#[]⟩))), .s 3 (.mov (.const (.string ⟨#[]⟩))), .f 4], .ret]) .skip], .dops [.m 22 5, .bk 23 .sub false 22 1000000000000000000, .c1 24 147 23, .m 25 0, .s 26 (.sliceStr (.tmp 25) (some (.const (.int .i64 9))) none), .m 2
 24, .m 3 26, .t 4], .ret]) .skip], .q [.o [.m 27 0, .s 28 (.indexStr (.tmp 27) (.const (.int .i64 0))), .s 29 (.bin .neq false (.tmp 28) (.const (.int .u8 2)))], .k 29 (.q [.o [.s 2 (.mov (.const (.string ⟨#[]⟩))), .s 3
 (.mov (.const (.string ⟨#[]⟩))), .f 4], .ret]) .skip], .o [.s 30 (.buildSlice 5 1 (.int .u8 0) 0 []), .m 6 30], .q [.o [.ki 7 1], .block 0 (.loop (.q [.q [.o [.m 31 7, .bk 32 .add false 31 1, .m 33 0, .s 34 (.lenStr
 (.tmp 33)), .bb 35 .lss false 32 34], .k 35 .skip (.exit 0)], .block 1 (.q [.q [.o [.m 38 0, .m 39 7, .s 40 (.indexStr (.tmp 38) (.tmp 39)), .s 41 (.bin .neq false (.tmp 40) (.const (.int .u8 0)))], .k 41 (.q [.o [.m 42
 6, .m 43 0, .m 44 7, .s 45 (.indexStr (.tmp 43) (.tmp 44)), .s 46 (.buildSlice 5 1 (.int .u8 0) 1 [(0, .tmp 45)]), .ap 47 5 1 1 42 46, .m 6 47], .exit 1]) .skip], .q [.o [.m 48 0, .m 49 7, .bk 50 .add false 49 1, .s 51
 (.indexStr (.tmp 48) (.tmp 50)), .s 52 (.bin .eql false (.tmp 51) (.const (.int .u8 0)))], .k 52 (.q [.dops [.m 53 6, .s 54 (.toStr (.tmp 53)), .m 55 0, .m 56 7, .bk 57 .add false 56 2, .s 58 (.sliceStr (.tmp 55) (some
 (.tmp 57)) none), .m 2 54, .m 3 58, .t 4], .ret]) .skip], .q [.o [.m 59 0, .m 60 7, .bk 61 .add false 60 1, .s 62 (.indexStr (.tmp 59) (.tmp 61)), .s 63 (.bin .neq false (.tmp 62) (.const (.int .u8 255)))], .k 63 (.q [.o
 [.s 2 (.mov (.const (.string ⟨#[]⟩))), .s 3 (.mov (.const (.string ⟨#[]⟩))), .f 4], .ret]) .skip], .o [.m 64 6, .s 65 (.buildSlice 5 1 (.int .u8 0) 1 [(0, .const (.int .u8 0))]), .ap 66 5 1 1 64 65, .m 6 66], .o [.m 67
 7, .bk 68 .add false 67 1, .m 7 68]]), .o [.m 36 7, .bk 37 .add false 36 1, .m 7 37]]))], .o [.s 2 (.mov (.const (.string ⟨#[]⟩))), .s 3 (.mov (.const (.string ⟨#[]⟩))), .f 4], .ret]
def xC_ : LF := ⟨1, 69, BV_, [.tmp 2, .tmp 3, .tmp 4]⟩
theorem CH_ : au_ Tryz.prog Tryz.f109 xC_ := ah_
theorem nu_ (l : List UInt8) (hp : 0 < l.length) (hl : l.length ≤ 1048576) (h : List Row) : aa_ Tryz.prog 109 [.val (.string (txt l))] h (lb_ (du_ l)) := by
 refine aj_ mixed Tryz.func109 CH_ rfl rfl ?_ h
 rw [vh_ l hp]
 simp (disch := omega) only [xC_, BV_, go_sem, reduceCtorEq, Int.reduceLE, ↓reduceIte]
 by_cases q1 : l[0] = 1
 ·have q1' : ((l[0].toNat : Int) = 1) = True := by simp [q1]
  have q12 : ((l[0].toNat : Int) = 2) = False := by simp [q1]
  have q2n : ¬ l[0] = 2 := by rw [q1]; decide
  by_cases q9 : 9 ≤ l.length
  ·have q9' : (9 : Int) ≤ l.length := by omega
   have e9 : List.drop 1 (List.take 9 l) = (l.drop 1).take 8 := by rw [drop_take]
   have e10 : List.drop 9 l = (l.drop 1).drop 8 := by rw [drop_drop]
   have hN := kw_ (l.drop 1)
   rw [if_pos ⟨q1, q9⟩]
   simp (disch := omega) only [q1', q9', e9, ag_, go_sem, reduceEqDiff, reduceLeDiff, reduceCtorEq, Int.reduceLE, Int.reduceToNat, ↓reduceIte]
   refine aa_.call (nD_ _ (by simp; omega) _) ?_
   simp (disch := omega) only [go_sem, ↓reduceIte]
   refine aa_.call (hD_ _ _ _ _) ?_
   rw [q1_ _ hN]
   by_cases qr : 1 ≤ cs_ 0 ((l.drop 1).take 8) ∧ cs_ 0 ((l.drop 1).take 8) ≤ 1999999999999999999
   ·rw [if_pos qr]
    have qr' : decide (1 ≤ cs_ 0 ((l.drop 1).take 8) ∧ cs_ 0 ((l.drop 1).take 8) ≤ 1999999999999999999) = true := by simpa using qr
    simp (disch := omega) only [qr', aq_, take_length, e10, ag_, go_sem, reduceEqDiff, reduceCtorEq, Int.reduceLE, Int.reduceToNat, ↓reduceIte]
    refine aa_.q (iI_ _ (by omega) (by omega) _) ?_
    exact ⟨2, rfl⟩
   ·rw [if_neg qr]
    have qr' : decide (1 ≤ cs_ 0 ((l.drop 1).take 8) ∧ cs_ 0 ((l.drop 1).take 8) ≤ 1999999999999999999) = false := by simpa using qr
    simp (disch := omega) only [qr', ag_, go_sem, reduceEqDiff, reduceCtorEq, Int.reduceLE, Int.reduceToNat, ↓reduceIte]
    exact ⟨2, rfl⟩
  ·have q9' : ¬ (9 : Int) ≤ l.length := by omega
   rw [if_neg (fun z => q9 z.2), if_neg q2n]
   simp (disch := omega) only [q1', q9', q12, ag_, go_sem, reduceEqDiff, reduceLeDiff, reduceCtorEq, Int.reduceLE, Int.reduceToNat, ↓reduceIte]
   exact ⟨2, rfl⟩
 ·have q1' : ((l[0].toNat : Int) = 1) = False := by rw [eq_iff_iff, iff_false]; intro e; exact q1 (UInt8.toNat_inj.1 (by have h2 : (1 : UInt8).toNat = 1 := rfl; omega))
  rw [if_neg (fun z => q1 z.1)]
  by_cases q2 : l[0] = 2
  case neg =>
   have q2' : ((l[0].toNat : Int) = 2) = False := by rw [eq_iff_iff, iff_false]; intro e; exact q2 (UInt8.toNat_inj.1 (by have h2 : (2 : UInt8).toNat = 2 := rfl; omega))
   rw [if_neg q2]
   simp (disch := omega) only [q1', q2', ag_, go_sem, reduceEqDiff, reduceLeDiff, reduceCtorEq, Int.reduceLE, Int.reduceToNat, ↓reduceIte]
   exact ⟨2, rfl⟩
  have q2' : ((l[0].toNat : Int) = 2) = True := by simp [q2]
  rw [if_pos q2]
  simp (disch := omega) only [q1', q2', ag_, go_sem, reduceEqDiff, reduceLeDiff, reduceCtorEq, Int.reduceLE, Int.reduceToNat, ↓reduceIte]
  refine aP_ (fun n t h => ∃ (i : Nat) (acc : List UInt8) (rest : List Row), t 0 = .val (.string (txt l)) ∧ t 6 = .own 0 acc.length ∧ t 7 = .val (.int .i64 i) ∧ h = ⟨5, 1, bx_ acc⟩ :: rest ∧ n = l.length + 1 - i ∧ i ≤ l.length ∧ acc.length ≤ i ∧ cv_ (l.drop 1) [] = cv_ (l.drop i) acc) l.length ?_ ?_
  ·exact ⟨1, [], [], rfl, rfl, rfl, rfl, by omega, by omega, by simp, rfl⟩
  rintro J hJ n t h ⟨i, acc, rest, t0, t6, t7, rfl, rfl, hi, hac, hS⟩
  have fl := f1_ acc
  by_cases hlt : i + 1 < l.length
  ·have hlt' : (i : Int) + 1 < l.length := by omega
   have hlt0 : i < l.length := by omega
   have ei : (i : Int) + 1 = ((i + 1 : Nat) : Int) := by omega
   have ei2 : (i : Int) + 2 = ((i + 2 : Nat) : Int) := by omega
   rw [m9_ l acc i hlt] at hS
   by_cases r0 : l[i] = 0
   ·rw [if_pos r0] at hS
    have r0' : ((l[i].toNat : Int) = 0) = True := by simp [r0]
    by_cases r1 : l[i + 1] = 0
    ·rw [if_pos r1] at hS
     have r1' : ((l[i + 1].toNat : Int) = 0) = True := by simp [r1]
     simp (disch := omega) only [t0, t6, t7, ei, ei2, hlt, r0', r1', aq_, fl, h0_, take_length, Option.map_some, go_sem, reduceEqDiff, reduceCtorEq, ↓reduceIte]
     rw [hS]
     exact ⟨2, rfl⟩
    ·rw [if_neg r1] at hS
     have r1' : ((l[i + 1].toNat : Int) = 0) = False := by rw [eq_iff_iff, iff_false]; intro e; exact r1 (UInt8.toNat_inj.1 (by have h2 : (0 : UInt8).toNat = 0 := rfl; omega))
     by_cases r2 : l[i + 1] = 255
     ·rw [if_pos r2] at hS
      have r2' : ((l[i + 1].toNat : Int) = 255) = True := by simp [r2]
      simp (disch := omega) only [t0, t6, t7, ei, hlt, r0', r1', r2', aq_, fl, go_sem, reduceEqDiff, reduceLeDiff, reduceCtorEq, ↓reduceIte]
      refine ⟨by omega, by omega, ?_⟩
      try simp (disch := omega) only [t0, t6, t7, ei, ei2, hlt, hlt0, r0', r1', r2', aq_, fl, go_sem, reduceEqDiff, Nat.reduceAdd, reduceLeDiff, reduceCtorEq, Int.reduceLT, Int.reduceLE, Int.reduceNeg, Int.reduceSub, Int.reduceAdd, Int.reduceToNat, ↓reduceIte]
      exact ⟨l.length + 1 - (i + 2), by omega, hJ _ _ _ ⟨i + 2, acc ++ [0], rest ++ [⟨5, 1, bx_ [0]⟩], by simp [upd, t0], by simp [upd], by simp [upd]; try omega, by simp [bx_], rfl, by omega, by simp; omega, hS⟩⟩
     ·rw [if_neg r2] at hS
      have r2' : ((l[i + 1].toNat : Int) = 255) = False := by rw [eq_iff_iff, iff_false]; intro e; exact r2 (UInt8.toNat_inj.1 (by have h2 : (255 : UInt8).toNat = 255 := rfl; omega))
      simp (disch := omega) only [t0, t7, ei, hlt, r0', r1', r2', aq_, go_sem, reduceEqDiff, reduceCtorEq, ↓reduceIte]
      rw [hS]
      exact ⟨2, rfl⟩
   ·rw [if_neg r0] at hS
    have r0' : ((l[i].toNat : Int) = 0) = False := by rw [eq_iff_iff, iff_false]; intro e; exact r0 (UInt8.toNat_inj.1 (by have h2 : (0 : UInt8).toNat = 0 := rfl; omega))
    simp (disch := omega) only [t0, t6, t7, ei, hlt, r0', aq_, fl, go_sem, reduceEqDiff, reduceLeDiff, reduceCtorEq, ↓reduceIte]
    refine ⟨by omega, by omega, ?_⟩
    try simp (disch := omega) only [t0, t6, t7, ei, ei2, hlt, hlt0, r0', aq_, fl, go_sem, reduceEqDiff, Nat.reduceAdd, reduceLeDiff, reduceCtorEq, Int.reduceLT, Int.reduceLE, Int.reduceNeg, Int.reduceSub, Int.reduceAdd, Int.reduceToNat, ↓reduceIte]
    exact ⟨l.length + 1 - (i + 1), by omega, hJ _ _ _ ⟨i + 1, acc ++ [l[i]], rest ++ [⟨5, 1, bx_ [l[i]]⟩], by simp [upd, t0], by simp [upd], by simp [upd]; try omega, by simp [bx_], rfl, by omega, by simp; omega, hS⟩⟩
  ·have hlt' : ¬ (i : Int) + 1 < l.length := by omega
   simp (disch := omega) only [t0, t7, hlt', aq_, go_sem, reduceEqDiff, reduceCtorEq, ↓reduceIte]
   rw [hS, ot_ l acc i (by omega)]
   exact ⟨2, rfl⟩
theorem zI_ (l : List UInt8) (i : Nat) (h : i < l.length) : esc (l.drop i) = if l[i] = 0 then 0 :: 255 :: esc (l.drop (i + 1)) else l[i] :: esc (l.drop (i + 1)) := by
 rw [drop_eq_getElem_cons h, esc]
theorem xW_ (n k : Nat) (h : k < 8) : IntKind.u8.wrap ((n : Int).fdiv (2 ^ min (8 * (7 - (k : Int))).toNat 64)) = ((dr_ n (7 - k)).toNat : Int) := by
 have e : (8 * (7 - (k : Int))).toNat = (8 * ((7 - k : Nat) : Int)).toNat := by omega
 rw [e, pz_ _ _ (by omega), mS_]
theorem nB_ (l : List UInt8) (b : UInt8) : bx_ l ++ [[AV.val (.int .u8 b.toNat)]] = bx_ (l ++ [b]) := by simp [bx_]
def zZ_ : LC :=
 .q [.o [.s 2 (.mov (.const (.string ⟨#[]⟩)))], .o [.s 7 (.buildSlice 5 1 (.int .u8 0) 0 []), .m 3 7], .q [.o [.m 8 0, .c1 9 176 8], .k 9 (.q [.o [.m 10 0, .c1 11 177 10, .bk 12 .add false 11 1000000000000000000, .m 4
 12], .o [.m 13 3, .s 14 (.buildSlice 5 1 (.int .u8 0) 1 [(0, .const (.int .u8 1))]), .ap 15 5 1 1 13 14, .m 3 15], .q [.o [.ki 5 7], .block 0 (.loop (.q [.q [.o [.m 16 5, .bk 17 .geq false 16 0], .k 17 .skip (.exit 0)],
 .block 1 (.o [.m 20 3, .m 21 4, .m 22 5, .s 23 (.bin .mul false (.const (.int .i64 8)) (.tmp 22)), .bb 24 .shr false 21 23, .s 25 (.convInt .u8 (.tmp 24)), .s 26 (.buildSlice 5 1 (.int .u8 0) 1 [(0, .tmp 25)]), .ap 27 5
 1 1 20 26, .m 3 27]), .o [.m 18 5, .bk 19 .sub false 18 1, .m 5 19]]))], .o [.m 28 3, .s 29 (.toStr (.tmp 28)), .m 2 29], .ret]) .skip], .o [.m 30 3, .s 31 (.buildSlice 5 1 (.int .u8 0) 1 [(0, .const (.int .u8 2))]), .ap
 32 5 1 1 30 31, .m 3 32], .q [.o [.ki 6 0], .block 2 (.loop (.q [.q [.o [.m 33 6, .m 34 0, .s 35 (.lenStr (.tmp 34)), .bb 36 .lss false 33 35], .k 36 .skip (.exit 2)], .block 3 (.q [.o [.m 39 3, .m 40 0, .m 41 6, .s 42
 (.indexStr (.tmp 40) (.tmp 41)), .s 43 (.buildSlice 5 1 (.int .u8 0) 1 [(0, .tmp 42)]), .ap 44 5 1 1 39 43, .m 3 44], .o [.m 45 0, .m 46 6, .s 47 (.indexStr (.tmp 45) (.tmp 46)), .s 48 (.bin .eql false (.tmp 47) (.const
 (.int .u8 0)))], .k 48 (.o [.m 49 3, .s 50 (.buildSlice 5 1 (.int .u8 0) 1 [(0, .const (.int .u8 255))]), .ap 51 5 1 1 49 50, .m 3 51]) .skip]), .o [.m 37 6, .bk 38 .add false 37 1, .m 6 38]]))], .o [.m 52 3, .s 53
 (.buildSlice 5 1 (.int .u8 0) 2 [(0, .const (.int .u8 0)), (1, .const (.int .u8 0))]), .ap 54 5 1 1 52 53, .s 55 (.toStr (.tmp 54)), .m 2 55], .ret]
def wK_ : LF := ⟨1, 56, zZ_, [.tmp 2]⟩
theorem Ca_ : au_ Tryz.prog Tryz.f148 wK_ := ah_
theorem nY_ (l : List UInt8) (hl : l.length ≤ 1048576) (h : List Row) : aa_ Tryz.prog 148 [.val (.string (txt l))] h (.val (.string (txt (cz_ l)))) := by
 refine aj_ mixed Tryz.func148 Ca_ rfl rfl ?_ h
 simp (disch := omega) only [wK_, zZ_, go_sem, reduceCtorEq, ↓reduceIte]
 refine aa_.call (il_ l (by omega) _) ?_
 by_cases q : b7_ l = true
 ·simp (disch := omega) only [q, go_sem, reduceCtorEq, ↓reduceIte]
  refine aa_.call (hB_ l (by omega) _) ?_
  have hn := eN_ l
  have hq := iX_ l
  have hq2 := i4_ l
  have hkey : cz_ l = 1 :: be8 (di_ l) := by unfold cz_; rw [if_pos q]
  simp (disch := omega) only [aq_, ← hq, go_sem, reduceEqDiff, reduceLeDiff, ↓reduceIte]
  refine ⟨by omega, ?_⟩
  try simp (disch := omega) only [aq_, ← hq, go_sem, reduceEqDiff, Nat.reduceAdd, reduceLeDiff, reduceCtorEq, Int.reduceLT, Int.reduceLE, Int.reduceNeg, Int.reduceSub, Int.reduceAdd, Int.reduceToNat, ↓reduceIte]
  refine aP_ (fun n t h => ∃ (k : Nat) (rest : List Row), t 3 = .own 0 (1 + k) ∧ t 4 = .val (.int .i64 (di_ l)) ∧ t 5 = .val (.int .i64 (7 - k)) ∧ h = ⟨5, 1, bx_ (1 :: (be8 (di_ l)).take k)⟩ :: rest ∧ n = 8 - k ∧ k ≤ 8) 8 ?_ ?_
  ·exact ⟨0, _, rfl, rfl, rfl, rfl, rfl, by omega⟩
  rintro J hJ n t h ⟨k, rest, t3, t4, t5, rfl, rfl, hk⟩
  have fl : (bx_ (1 :: (be8 (di_ l)).take k)).length = 1 + k := by
   rw [f1_, lc_, length_take, d2_]; omega
  by_cases hlt : k < 8
  ·have hg : (0 : Int) ≤ 7 - k := by omega
   simp (disch := omega) only [t3, t4, t5, hg, fl, ny_, n5_, aq_, xW_, go_sem, reduceEqDiff, reduceLeDiff, ↓reduceIte]
   refine ⟨by omega, by omega, ?_⟩
   try simp (disch := omega) only [t3, t4, t5, hg, fl, ny_, n5_, aq_, xW_, go_sem, reduceEqDiff, Nat.reduceAdd, reduceLeDiff, reduceCtorEq, Int.reduceLT, Int.reduceLE, Int.reduceNeg, Int.reduceSub, Int.reduceAdd, Int.reduceToNat, ↓reduceIte]
   refine ⟨8 - (k + 1), by omega, hJ _ _ _ ⟨k + 1, rest ++ [⟨5, 1, bx_ [dr_ (di_ l) (7 - k)]⟩], by simp [upd]; try omega, by simp [upd, t4], by simp [upd]; try omega, ?_, rfl, by omega⟩⟩
   rw [nB_, cons_append, ← pX_ _ _ hlt]
   rfl
  ·have hg : ¬ (0 : Int) ≤ 7 - k := by omega
   simp (disch := omega) only [t3, t5, hg, fl, h0_, Option.map_some, go_sem, reduceEqDiff, ↓reduceIte]
   rw [rI_ _ _ (by omega), ← hkey]
   exact ⟨1, rfl⟩
 ·have q' : b7_ l = false := by simpa using q
  have hkey : cz_ l = 2 :: (esc l ++ [0, 0]) := by unfold cz_; rw [if_neg q]
  simp (disch := omega) only [q', go_sem, reduceEqDiff, reduceLeDiff, ↓reduceIte]
  refine ⟨by omega, ?_⟩
  try simp (disch := omega) only [go_sem, reduceEqDiff, Nat.reduceAdd, reduceLeDiff, reduceCtorEq, Int.reduceLT, Int.reduceLE, Int.reduceNeg, Int.reduceSub, Int.reduceAdd, Int.reduceToNat, ↓reduceIte]
  refine aP_ (fun n t h => ∃ (i : Nat) (out : List UInt8) (rest : List Row), t 0 = .val (.string (txt l)) ∧ t 3 = .own 0 out.length ∧ t 6 = .val (.int .i64 i) ∧ h = ⟨5, 1, bx_ out⟩ :: rest ∧ n = l.length - i ∧ i ≤ l.length ∧ out.length ≤ 1 + 2 * i ∧ 2 :: esc l = out ++ esc (l.drop i)) l.length ?_ ?_
  ·exact ⟨0, [2], _, rfl, rfl, rfl, rfl, rfl, by omega, by simp, rfl⟩
  rintro J hJ n t h ⟨i, out, rest, t0, t3, t6, rfl, rfl, hi, hol, hS⟩
  have fl := f1_ out
  by_cases hlt : i < l.length
  ·have hltI : (i : Int) < l.length := by omega
   rw [zI_ l i hlt] at hS
   by_cases r0 : l[i] = 0
   ·rw [if_pos r0] at hS
    have r0' : ((l[i].toNat : Int) = 0) = True := by simp [r0]
    simp (disch := omega) only [t0, t3, t6, hltI, r0', fl, aq_, go_sem, reduceEqDiff, reduceLeDiff, reduceCtorEq, ↓reduceIte]
    refine ⟨by omega, by omega, ?_⟩
    refine ⟨by omega, by omega, ?_⟩
    refine ⟨l.length - (i + 1), by omega, hJ _ _ _ ⟨i + 1, out ++ [0, 255], rest ++ [⟨5, 1, bx_ [l[i]]⟩, ⟨5, 1, bx_ [255]⟩], by simp [upd, t0], by simp [upd], by simp [upd]; try omega, by simp [bx_, r0], rfl, by omega, by simp; omega, by rw [hS]; simp⟩⟩
   ·rw [if_neg r0] at hS
    have r0' : ((l[i].toNat : Int) = 0) = False := by rw [eq_iff_iff, iff_false]; intro e; exact r0 (UInt8.toNat_inj.1 (by have h2 : (0 : UInt8).toNat = 0 := rfl; omega))
    simp (disch := omega) only [t0, t3, t6, hltI, r0', fl, aq_, go_sem, reduceEqDiff, reduceLeDiff, reduceCtorEq, ↓reduceIte]
    refine ⟨by omega, by omega, ?_⟩
    try simp (disch := omega) only [t0, t3, t6, hltI, hlt, r0', fl, aq_, go_sem, reduceEqDiff, Nat.reduceAdd, reduceLeDiff, reduceCtorEq, Int.reduceLT, Int.reduceLE, Int.reduceNeg, Int.reduceSub, Int.reduceAdd, Int.reduceToNat, ↓reduceIte]
    exact ⟨l.length - (i + 1), by omega, hJ _ _ _ ⟨i + 1, out ++ [l[i]], rest ++ [⟨5, 1, bx_ [l[i]]⟩], by simp [upd, t0], by simp [upd], by simp [upd]; try omega, by simp [bx_], rfl, by omega, by simp; omega, by rw [hS]; simp⟩⟩
  ·have hltI : ¬ (i : Int) < l.length := by omega
   rw [drop_eq_nil_of_le (by omega), esc, append_nil] at hS
   simp (disch := omega) only [t0, t3, t6, hltI, fl, go_sem, reduceEqDiff, Nat.reduceAdd, reduceLeDiff, reduceCtorEq, ↓reduceIte]
   refine ⟨by omega, by omega, ?_⟩
   have e2 : bx_ out ++ [[AV.val (.int .u8 0)], [AV.val (.int .u8 0)]] = bx_ (out ++ [0, 0]) := by simp [bx_]
   simp (disch := omega) only [e2, h0_, Option.map_some, go_sem]
   rw [hkey, ← hS]
   exact ⟨1, rfl⟩
def Cx_ : LC :=
 .q [.o [.s 2 (.mov (.const (.string ⟨#[]⟩)))], .o [.s 3 (.mov (.const (.string ⟨#[]⟩)))], .q [.o [.ki 4 0], .block 0 (.loop (.q [.q [.o [.m 5 4, .m 6 0, .ll 7 6, .bb 8 .lss false 5 7], .k 8 .skip (.exit 0)], .block 1 (.o
 [.m 11 3, .m 12 0, .m 13 4, .ia 14 1 12 13, .ln 15 14, .c1 16 148 15, .bb 17 .add false 11 16, .m 3 17]), .o [.m 9 4, .bk 10 .add false 9 1, .m 4 10]]))], .o [.m 18 3, .m 2 18], .ret]
def xo_ : LF := ⟨1, 19, Cx_, [.tmp 2]⟩
theorem zT_ : au_ Tryz.prog Tryz.f111 xo_ := ah_
theorem g1_ (xs : List ByteArray) (hx : bm_ xs = true) (h : List Row) : aa_ Tryz.prog 111 [.list 0 1 (xs.map am_)] h (.val (.string (txt (cT_ (bss xs))))) := by
 refine aj_ mixed Tryz.func111 zT_ rfl rfl ?_ h
 obtain ⟨h4, hm⟩ := eR_ hx
 simp (disch := omega) only [xo_, Cx_, go_sem]
 refine aP_ (fun n t h => ∃ k : Nat, t 0 = .list 0 1 (xs.map am_) ∧ t 3 = .val (.string (txt (cT_ (bss (xs.take k))))) ∧ t 4 = .val (.int .i64 k) ∧ h = [] ∧ n = xs.length - k ∧ k ≤ xs.length) xs.length ⟨0, rfl, rfl, rfl, rfl, rfl, Nat.zero_le _⟩ ?_
 rintro J hJ n t h ⟨k, t0, t3, t4, rfl, rfl, hk⟩
 by_cases hlt : k < xs.length
 ·have hltI : (k : Int) < xs.length := by omega
  have hl1 := kf_ (xs.take k) (fun x hx' => (hm x (mem_of_mem_take hx')).2)
  have hl2 : (xs.take k).length ≤ 4 := by rw [length_take]; omega
  have hl3 := kv_ (bs xs[k])
  have hl4 := hm _ (getElem_mem hlt)
  have hl5 : (bs xs[k]).length = xs[k].size := fq_ _
  have hc := fun h => nY_ (bs xs[k]) (by omega) h
  rw [ez_] at hc
  have hadd : (cT_ (bss (xs.take k))).length + (cz_ (bs xs[k])).length ≤ 9223372036854775807 := by omega
  simp (disch := omega) only [t0, t3, t4, hltI, go_sem, reduceEqDiff, reduceCtorEq, ↓reduceIte]
  refine aa_.call (hc _) ?_
  simp (disch := omega) only [t4, jW_ _ _ _ hadd, aq_, go_sem, reduceEqDiff, ↓reduceIte]
  refine ⟨xs.length - (k + 1), by omega, hJ _ _ _ ⟨k + 1, by simp [upd, t0], ?_, by simp [upd], rfl, rfl, by omega⟩⟩
  rw [take_succ_eq_append_getElem hlt, bss, bss, map_append, px_]
  simp [upd, cT_]
 ·have hltI : ¬ (k : Int) < xs.length := by omega
  simp (disch := omega) only [t0, t3, t4, hltI, go_sem, reduceEqDiff, reduceCtorEq, ↓reduceIte]
  rw [take_of_length_le (by omega)]
  exact ⟨1, rfl⟩
theorem tZ_ {s : ByteArray} (h : cV_ du_ 5 (bs s) [] = none) : dW_ s = ([], false) := by
 rw [dW_, lp_, gb_, h]
theorem nR_ {s : ByteArray} {out : List (List UInt8)} {left : List UInt8} (h : cV_ du_ 5 (bs s) [] = some (out, left)) (q : ¬ (left = [] ∧ eP_ out = true ∧ cT_ out = bs s)) : dW_ s = ([], false) := by
 rw [dW_, lp_, gb_, h]; simp only; rw [if_neg q]
theorem u3_ {s : ByteArray} {out : List (List UInt8)} (h : cV_ du_ 5 (bs s) [] = some (out, [])) (h2 : eP_ out = true) (h3 : cT_ out = bs s) : dW_ s = (out.map txt, true) := by
 rw [dW_, lp_]; simp [gb_, h, h2, h3]
def c75 : LC :=
 .q [.o [.nl 2, .f 3], .o [.s 9 (.buildSlice 9 1 (.string ⟨#[]⟩) 0 []), .m 4 9], .o [.m 10 0, .m 5 10], .block 0 (.loop (.q [.q [.o [.m 11 5, .s 12 (.bin .neq false (.tmp 11) (.const (.string ⟨#[]⟩))), .m 13 12, .gm 14 13
 true 4, .g 15 13 true (.lenSl (.tmp 14)), .g 16 13 true (.bin .leq false (.tmp 15) (.const (.int .i64 4))), .pf 17 13 16], .k 17 .skip (.exit 0)], .block 1 (.q [.o [.m 19 5, .c1 20 109 19, .m 18 20, .ex 21 18 0, .ex 22
 18 1, .ex 23 18 2, .m 6 21, .m 7 22, .m 8 23], .q [.o [.m 24 8, .nt 25 24], .k 25 (.q [.o [.s 26 (.buildSlice 9 1 (.string ⟨#[]⟩) 0 []), .m 2 26, .f 3], .ret]) .skip], .o [.m 27 4, .m 28 6, .s 29 (.buildSlice 9 1
 (.string ⟨#[]⟩) 1 [(0, .tmp 28)]), .ap 30 9 1 16 27 29, .m 4 30], .o [.m 31 7, .m 5 31]])])), .q [.o [.m 32 5, .s 33 (.bin .neq false (.tmp 32) (.const (.string ⟨#[]⟩))), .m 34 33, .gm 35 34 false 4, .gc 36 34 false 110
 35, .gu 37 34 false 36, .pt 38 34 37, .m 39 38, .gm 40 39 false 4, .gc 41 39 false 111 40, .gm 42 39 false 0, .g 43 39 false (.bin .neq false (.tmp 41) (.tmp 42)), .pt 44 39 43], .k 44 (.q [.o [.s 45 (.buildSlice 9 1
 (.string ⟨#[]⟩) 0 []), .m 2 45, .f 3], .ret]) .skip], .o [.m 46 4, .m 2 46, .t 3], .ret]
def y4_ : LF := ⟨1, 47, c75, [.tmp 2, .tmp 3]⟩
theorem D0_ : au_ Tryz.prog Tryz.f75 y4_ := ah_
theorem kV_ (s : ByteArray) (hs : s.size ≤ 1048576) : aQ_ Tryz.prog 75 [.val (.string s)] (pj_ (dW_ s)) (fun a => ∃ b q, a = .tup [b, .val (.bool q)]) := by
 refine dn_ mixed Tryz.func75 D0_ rfl (fun h0 => ?_)
 have hbl := fq_ s
 simp (disch := omega) only [y4_, c75, go_sem, reduceCtorEq, ↓reduceIte]
 refine aP_ (fun n t h => ∃ (out : List (List UInt8)) (left : List UInt8) (rest : List Row), t 0 = .val (.string s) ∧ t 4 = .own h0.length out.length ∧ t 5 = .val (.string (txt left)) ∧ h = h0 ++ ⟨9, 1, ec_ out⟩ :: rest ∧ n = 5 - out.length ∧ out.length ≤ 5 ∧ left.length ≤ s.size ∧ cV_ du_ 5 (bs s) [] = cV_ du_ (5 - out.length) left out) 5 ?_ ?_
 ·exact ⟨[], bs s, [], rfl, rfl, by rw [ez_]; rfl, rfl, rfl, by simp, Nat.le_of_eq (fq_ s), rfl⟩
 rintro J hJ n t h ⟨out, left, rest, t0, t4, t5, rfl, rfl, ho, hle, hS⟩
 have fl : (ec_ out).length = out.length := by simp
 have hA := qB_ h0 out rest
 by_cases q0 : left = []
 ·subst q0
  have hR : cV_ du_ 5 (bs s) [] = some (out, []) := by
   rw [hS]; cases 5 - out.length with
   | zero => rw [cV_]
   | succ f => rw [cV_, if_pos rfl]
  have q0' : (txt ([] : List UInt8) = txt []) = True := by simp
  simp (disch := omega) only [t4, t5, ag_, go_sem, reduceEqDiff, ↓reduceIte]
  refine aa_.call (AW.frozen (d3_ (out.map txt) (by simp; omega)) hA) ?_
  by_cases s1 : eP_ out = true
  case neg =>
   have s1' : bm_ (out.map txt) = false := by rw [el_]; simpa using s1
   simp (disch := omega) only [t4, s1', ag_, go_sem, reduceEqDiff, ↓reduceIte]
   rw [nR_ hR (fun q => s1 q.2.1)]
   exact ⟨_, rfl, c3_ (fw_ (out := []) (E := 9) (by first | (rw [bs_]; rfl) | (rw [bs_]; simp)) (by omega)) (by omega) _, _, _, rfl⟩
  have s1' : bm_ (out.map txt) = true := by rw [el_]; exact s1
  simp (disch := omega) only [t4, s1', go_sem, reduceEqDiff, ↓reduceIte]
  refine aa_.call (AW.frozen (g1_ (out.map txt) s1') hA) ?_
  rw [qp_]
  by_cases s2 : cT_ out = bs s
  case neg =>
   have s2' : (txt (cT_ out) = s) = False := by rw [eq_iff_iff, iff_false]; intro e; exact s2 (by rw [← e]; exact (cd_ _).symm)
   simp (disch := omega) only [t0, t4, s2', ag_, go_sem, reduceEqDiff, reduceCtorEq, ↓reduceIte]
   rw [nR_ hR (fun q => s2 q.2.2)]
   exact ⟨_, rfl, c3_ (fw_ (out := []) (E := 9) (by first | (rw [bs_]; rfl) | (rw [bs_]; simp)) (by omega)) (by omega) _, _, _, rfl⟩
  have s2' : (txt (cT_ out) = s) = True := by rw [s2, ez_]; simp
  simp (disch := omega) only [t0, t4, s2', ag_, go_sem, reduceEqDiff, reduceCtorEq, ↓reduceIte]
  rw [u3_ hR s1 s2]
  have hz := c3_ (fw_ (base := h0.length) (l := h0.length) (E := 9) (out := out.map txt) (H := h0 ++ ⟨9, 1, ec_ out⟩ :: rest) (by rw [b4_]; rfl) (Nat.le_refl _)) (by omega) (.bool true)
  rw [List.length_map] at hz
  exact ⟨_, rfl, hz, _, _, rfl⟩
 ·have hpos : 0 < left.length := by cases left with
   | nil => exact absurd rfl q0
   | cons b l => simp
  have q0' : (txt left = txt []) = False := by rw [lS_]; simp [q0]
  by_cases q4 : out.length ≤ 4
  ·have q4' : (out.length : Int) ≤ 4 := by omega
   have e5 : 5 - out.length = (4 - out.length) + 1 := by omega
   rw [e5, oy_ du_ (4 - out.length) left out q0] at hS
   simp (disch := omega) only [t4, t5, q0', q4', fl, ag_, go_sem, reduceEqDiff, ↓reduceIte]
   have hc := fun h => nu_ left hpos (by omega) h
   cases hn : du_ left with
   | none =>
    rw [hn, jl_] at hc
    rw [hn] at hS
    refine aa_.call (hc _) ?_
    simp (disch := omega) only [t4, fl, ag_, go_sem, reduceEqDiff, reduceLeDiff, ↓reduceIte]
    rw [tZ_ (by rw [hS])]
    exact ⟨_, rfl, c3_ (fw_ (out := []) (E := 9) (by first | (rw [bs_]; rfl) | (rw [bs_]; simp)) (by omega)) (by omega) _, _, _, rfl⟩
   | some p =>
    obtain ⟨x, r⟩ := p
    rw [hn, jp_] at hc
    have hlen := tR_ left x r hn
    rw [hn] at hS
    refine aa_.call (hc _) ?_
    simp (disch := omega) only [t4, fl, ag_, go_sem, reduceEqDiff, reduceLeDiff, ↓reduceIte]
    refine ⟨by omega, by omega, ?_⟩
    try simp (disch := omega) only [t0, t4, t5, q0', q4', fl, ag_, go_sem, reduceEqDiff, Nat.reduceAdd, reduceLeDiff, reduceCtorEq, Int.reduceLT, Int.reduceLE, Int.reduceNeg, Int.reduceSub, Int.reduceAdd, Int.reduceToNat, ↓reduceIte]
    exact ⟨5 - (out.length + 1), by omega, hJ _ _ _ ⟨out ++ [x], r, rest ++ [⟨9, 1, [[.val (.string (txt x))]]⟩], by simp [upd, t0], by simp [upd], by simp [upd], by simp [am_], by simp, by simp; omega, by omega, by simpa [Nat.sub_sub] using hS⟩⟩
  ·have q4' : ¬ (out.length : Int) ≤ 4 := by omega
   have e0 : 5 - out.length = 0 := by omega
   have hR : cV_ du_ 5 (bs s) [] = some (out, left) := by rw [hS, e0, cV_]
   simp (disch := omega) only [t4, t5, q0', q4', fl, ag_, go_sem, reduceEqDiff, ↓reduceIte]
   rw [nR_ hR (fun q => q0 q.1)]
   exact ⟨_, rfl, c3_ (fw_ (out := []) (E := 9) (by first | (rw [bs_]; rfl) | (rw [bs_]; simp)) (by omega)) (by omega) _, _, _, rfl⟩
theorem iG_ (s : ByteArray) (hs : s.size ≤ 1048576) (h : List Row) : aa_ Tryz.prog 75 [.val (.string s)] h (pj_ (dW_ s)) := (kV_ s hs).pure rfl h
def ex_ (n : Int) : Bool := decide (n = 0) || decide (n = 1) || decide (n = 10) || decide (n = 11)
def CY_ : LC :=
 .q [.o [.f 2], .o [.m 3 0, .bk 4 .eql false 3 0, .m 5 4, .gm 6 5 false 0, .g 7 5 false (.bin .eql false (.tmp 6) (.const (.int .i64 1))), .pt 8 5 7, .m 9 8, .gm 10 9 false 0, .g 11 9 false (.bin .eql false (.tmp 10)
 (.const (.int .i64 10))), .pt 12 9 11, .m 13 12, .gm 14 13 false 0, .g 15 13 false (.bin .eql false (.tmp 14) (.const (.int .i64 11))), .pt 16 13 15, .m 2 16], .ret]
def xu_ : LF := ⟨1, 17, CY_, [.tmp 2]⟩
theorem CX_ : au_ prog Tryz.f129 xu_ := ah_
theorem e3_ (n : Int)  (h : List Row) : aa_ prog 129 [.val (.int .i64 n)] h (.val (.bool (ex_ n))) := by
 refine aj_ mixed Tryz.func129 CX_ rfl rfl ?_ h
 simp (disch := omega) only [xu_, CY_, go_sem, reduceCtorEq, ↓reduceIte]
 repeat' (first
  | exact af_ _ _
  | (refine ae_ ?_; simp [ex_, *]; done)
  | simp (disch := omega) only [go_sem, reduceEqDiff, reduceCtorEq, ↓reduceIte]
  | ((first | (apply a1_; assumption) | (apply a0_; assumption) | (apply be_; assumption) | (apply bd_; assumption)); intro hb; try simp only [hb])
  | ((first | (apply aM_; assumption) | (apply aN_; assumption) | (apply aX_; assumption) | (apply aY_; assumption)); intro hb; try simp only [hb])
  | ((first | apply aG_ | apply aJ_ | apply ao_ | apply ar_) <;> intro hb <;> (try simp only [hb]) <;> (first | have hp := a8_ hb | have hp := a6_ hb | have hp := a7_ hb | have hp := a5_ hb | skip)))
def c73 : LC :=
 .q [.o [.f 2], .o [.m 3 0, .bk 4 .eql false 3 0, .m 5 4, .gm 6 5 false 0, .g 7 5 false (.bin .eql false (.tmp 6) (.const (.int .i64 1))), .pt 8 5 7, .m 9 8, .gm 10 9 false 0, .g 11 9 false (.bin .eql false (.tmp 10)
 (.const (.int .i64 10))), .pt 12 9 11, .m 13 12, .gm 14 13 false 0, .g 15 13 false (.bin .eql false (.tmp 14) (.const (.int .i64 11))), .pt 16 13 15, .m 2 16], .ret]
def BL_ : LF := ⟨1, 17, c73, [.tmp 2]⟩
theorem Dn_ : au_ prog Tryz.f73 BL_ := ah_
theorem e6_ (n : Int)  (h : List Row) : aa_ prog 73 [.val (.int .i64 n)] h (.val (.bool (ex_ n))) := by
 refine aj_ mixed Tryz.func73 Dn_ rfl rfl ?_ h
 simp (disch := omega) only [BL_, c73, go_sem, reduceCtorEq, ↓reduceIte]
 repeat' (first
  | exact af_ _ _
  | (refine ae_ ?_; simp [ex_, *]; done)
  | simp (disch := omega) only [go_sem, reduceEqDiff, reduceCtorEq, ↓reduceIte]
  | ((first | (apply a1_; assumption) | (apply a0_; assumption) | (apply be_; assumption) | (apply bd_; assumption)); intro hb; try simp only [hb])
  | ((first | (apply aM_; assumption) | (apply aN_; assumption) | (apply aX_; assumption) | (apply aY_; assumption)); intro hb; try simp only [hb])
  | ((first | apply aG_ | apply aJ_ | apply ao_ | apply ar_) <;> intro hb <;> (try simp only [hb]) <;> (first | have hp := a8_ hb | have hp := a6_ hb | have hp := a7_ hb | have hp := a5_ hb | skip)))
def fs_ (s : ByteArray) : Bool := decide (64 < (s.size : Int))
def zg_ : LC :=
 .q [.o [.f 2], .o [.m 3 0, .s 4 (.lenStr (.tmp 3)), .bk 5 .gtr false 4 64, .m 2 5], .ret]
def wQ_ : LF := ⟨1, 6, zg_, [.tmp 2]⟩
theorem B2_ : au_ prog Tryz.f159 wQ_ := ah_
theorem i1_ (s : ByteArray)  (h : List Row) : aa_ prog 159 [.val (.string s)] h (.val (.bool (fs_ s))) := by
 refine aj_ mixed Tryz.func159 B2_ rfl rfl ?_ h
 simp (disch := omega) only [wQ_, zg_, go_sem, reduceCtorEq, ↓reduceIte]
 repeat' (first
  | exact af_ _ _
  | (refine ae_ ?_; first | rfl | (simp only [fs_, *, Bool.and_true, Bool.true_and, Bool.and_false, Bool.false_and, Bool.or_true, Bool.true_or, Bool.or_false, Bool.false_or, Bool.not_true, Bool.not_false, decide_true, decide_false, Bool.and_self, Bool.or_self]; done) | (simp [fs_, *]; done))
  | simp (disch := omega) only [go_sem, reduceEqDiff, Nat.reduceAdd, reduceLeDiff, reduceCtorEq, Int.reduceLT, Int.reduceLE, Int.reduceNeg, Int.reduceSub, Int.reduceAdd, Int.reduceToNat, ↓reduceIte]
  | ((first | (apply aM_; assumption) | (apply aN_; assumption) | (apply aX_; assumption) | (apply aY_; assumption)); intro hb; try simp only [hb])
  | ((first | apply ao_ | apply ar_) <;> intro hb <;> (try simp only [hb]) <;> (first | have hp := a8_ hb | have hp := a6_ hb | have hp := a7_ hb | have hp := a5_ hb | skip)))
def Bv_ : LC :=
 .q [.o [.f 2], .o [.m 3 0, .s 4 (.call 133 [.tmp 3, .func 159]), .m 2 4], .ret]
def wF_ : LF := ⟨1, 5, Bv_, [.tmp 2]⟩
theorem A7_ : au_ prog Tryz.f130 wF_ := ah_
theorem qq_ (xs : List ByteArray) (hx : xs.length ≤ 1048576) (h : List Row) : aa_ prog 130 [.list 0 1 (xs.map am_)] h (.val (.bool (xs.any fs_))) := by
 refine aj_ mixed Tryz.func130 A7_ rfl rfl ?_ h
 simp (disch := omega) only [wF_, Bv_, go_sem, reduceCtorEq, ↓reduceIte]
 repeat' (first
  | exact af_ _ _
  | simp (disch := omega) only [go_sem, ↓reduceIte]
  | (refine aa_.call (cw_ _ fs_ 159 hx (by kernel_rfl) (fun x _ h => i1_ x h) _) ?_)
  | (refine aa_.q (cw_ _ fs_ 159 hx (by kernel_rfl) (fun x _ h => i1_ x h) _) ?_)
  | ((first | (apply aM_; assumption) | (apply aN_; assumption) | (apply aX_; assumption) | (apply aY_; assumption)); intro hb; try simp only [hb])
  | ((first | apply ao_ | apply ar_) <;> intro hb <;> (try simp only [hb]) <;> (first | have hp := a8_ hb | have hp := a6_ hb | have hp := a7_ hb | have hp := a5_ hb | skip)))
theorem ha_ (s : ByteArray) {H : List Row} (hl : H[1]? = some ⟨9, 1, [[.val (.string s)]]⟩) : aa_ prog 130 [.own 1 1] H (.val (.bool (fs_ s))) := by
 have : aa_ prog 130 [.own 1 1] H (.val (.bool ([s].any fs_))) := AW.frozen (n := 2) (qq_ [s] (by simp)) (pD_ (lC_ (n := 0) hl rfl (by simp [AV.flat])))
 simpa using this
def bo_ (e : ab_) : Bool :=
 if e.Kind = 1 then ex_ e.N && !fs_ e.Value && (decide (e.N.tmod 10 = 1) || decide (e.Value = txt []))
 else if e.Kind = 4 then ex_ e.N && decide (e.Value = txt [])
 else if e.Kind = 5 then (decide (e.N = 1) || decide (e.N = -1)) && (decide (e.Value = txt []) || b0_ e.Value)
 else if e.Kind = 6 then decide (e.N = 1) && (dW_ e.Value).2 || decide (e.N = 0) && decide (e.Value = txt [])
 else if e.Kind = 2 then decide (e.N = 0) && !fs_ e.Value
 else decide (e.Kind = 3) && decide (e.N = 0) && decide (e.Value = txt [])
def c93 : LC :=
 .q [.o [.bx 1 44 0, .f 2], .q [.o [.fa 5 0 1, .ln 6 5], .block 0 (.q [.o [.bk 8 .eql false 6 1, .m 7 8], .k 7 (.q [.o [.fa 9 4 1, .ln 10 9, .c1 11 129 10, .m 12 11, .gf 13 12 true 3 1, .gn 14 12 true 13, .g 15 12 true
 (.buildSlice 9 1 (.string ⟨#[]⟩) 1 [(0, .tmp 14)]), .gc 16 12 true 130 15, .gu 17 12 true 16, .pf 18 12 17, .m 19 18, .gf 20 19 true 4 1, .gn 21 19 true 20, .g 22 19 true (.bin .rem false (.tmp 21) (.const (.int .i64
 10))), .g 23 19 true (.bin .eql false (.tmp 22) (.const (.int .i64 1))), .gm 24 19 true 23, .gf 25 24 false 3 1, .gn 26 24 false 25, .g 27 24 false (.bin .eql false (.tmp 26) (.const (.string ⟨#[]⟩))), .g 28 19 true
 (.pick (.tmp 24) (.const (.bool true)) (.tmp 27)), .pf 29 19 28, .m 2 29], .ret]) (.q [.o [.bk 31 .eql false 6 4, .m 30 31], .k 30 (.q [.o [.fa 32 4 1, .ln 33 32, .c1 34 129 33, .m 35 34, .gf 36 35 true 3 1, .gn 37 35
 true 36, .g 38 35 true (.bin .eql false (.tmp 37) (.const (.string ⟨#[]⟩))), .pf 39 35 38, .m 2 39], .ret]) (.q [.o [.bk 41 .eql false 6 5, .m 40 41], .k 40 (.q [.o [.fa 42 4 1, .ln 43 42, .bk 44 .eql false 43 1, .m 45
 44, .gf 46 45 false 4 1, .gn 47 45 false 46, .g 48 45 false (.bin .eql false (.tmp 47) (.const (.int .i64 (-1)))), .pt 49 45 48, .m 50 49, .gf 51 50 true 3 1, .gn 52 50 true 51, .g 53 50 true (.bin .eql false (.tmp 52)
 (.const (.string ⟨#[]⟩))), .gm 54 50 true 53, .gf 55 54 false 3 1, .gn 56 54 false 55, .gc 57 54 false 131 56, .g 58 50 true (.pick (.tmp 54) (.const (.bool true)) (.tmp 57)), .pf 59 50 58, .m 2 59], .ret]) (.q [.o [.bk
 61 .eql false 6 6, .m 60 61], .k 60 (.q [.o [.fa 63 3 1, .ln 64 63, .c1 65 132 64, .m 62 65, .ex 66 62 0, .ex 67 62 1, .m 3 66, .m 4 67], .o [.fa 68 4 1, .ln 69 68, .bk 70 .eql false 69 1, .m 71 70, .gm 72 71 true 4, .pf
 73 71 72, .m 74 73, .gf 75 74 false 4 1, .gn 76 74 false 75, .g 77 74 false (.bin .eql false (.tmp 76) (.const (.int .i64 0))), .gm 78 74 false 77, .gf 79 78 true 3 1, .gn 80 78 true 79, .g 81 78 true (.bin .eql false
 (.tmp 80) (.const (.string ⟨#[]⟩))), .g 82 74 false (.pick (.tmp 78) (.tmp 81) (.const (.bool false))), .pt 83 74 82, .m 2 83], .ret]) (.q [.o [.bk 85 .eql false 6 2, .m 84 85], .k 84 (.q [.o [.fa 86 4 1, .ln 87 86, .bk
 88 .eql false 87 0, .m 89 88, .gf 90 89 true 3 1, .gn 91 89 true 90, .g 92 89 true (.buildSlice 9 1 (.string ⟨#[]⟩) 1 [(0, .tmp 91)]), .gc 93 89 true 130 92, .gu 94 89 true 93, .pf 95 89 94, .m 2 95], .ret])
 .skip])])])])])], .o [.fa 96 0 1, .ln 97 96, .bk 98 .eql false 97 3, .m 99 98, .gf 100 99 true 4 1, .gn 101 99 true 100, .g 102 99 true (.bin .eql false (.tmp 101) (.const (.int .i64 0))), .pf 103 99 102, .m 104 103, .gf
 105 104 true 3 1, .gn 106 104 true 105, .g 107 104 true (.bin .eql false (.tmp 106) (.const (.string ⟨#[]⟩))), .pf 108 104 107, .m 2 108], .ret]
def AS_ : LF := ⟨1, 109, c93, [.tmp 2]⟩
theorem DG_ : au_ prog Tryz.f93 AS_ := ah_
theorem f6_ (x : ab_) (hx : ab_.sz x ≤ 1048576) (h : List Row) : aa_ prog 93 [.agg (ab_.cells x)] h (.val (.bool (bo_ x))) := by
 refine aj_ mixed Tryz.func93 DG_ rfl rfl ?_ h
 have hv := ab_.sz_Value hx
 simp (disch := omega) only [AS_, c93, ab_.cells, go_sem, reduceEqDiff, Nat.reduceAdd, Int.reduceNeg, ↓reduceIte]
 by_cases k1 : x.Kind = 1
 ·simp (disch := omega) only [k1, go_sem, reduceEqDiff, Int.reduceNeg, ↓reduceIte]
  repeat' (first
   | exact af_ _ _
   | (refine ae_ ?_; simp [bo_, *]; done)
   | simp (disch := omega) only [go_sem, reduceEqDiff, ↓reduceIte]
   | (refine aa_.call (e3_ _ _) ?_)
   | (refine aa_.q (e3_ _ _) ?_)
   | (refine aa_.call (ha_ x.Value rfl) ?_)
   | (refine aa_.q (ha_ x.Value rfl) ?_)
   | ((first | (apply a1_; assumption) | (apply a0_; assumption) | (apply be_; assumption) | (apply bd_; assumption)); intro hb; try simp only [hb])
   | ((first | (apply aM_; assumption) | (apply aN_; assumption) | (apply aX_; assumption) | (apply aY_; assumption)); intro hb; try simp only [hb])
   | ((first | apply aG_ | apply aJ_ | apply ao_ | apply ar_) <;> intro hb <;> (try simp only [hb]) <;> (first | have hp := a8_ hb | have hp := a6_ hb | have hp := a7_ hb | have hp := a5_ hb | skip)))
 by_cases k4 : x.Kind = 4
 ·simp (disch := omega) only [k4, Int.reduceEq, go_sem, reduceEqDiff, Int.reduceNeg, ↓reduceIte]
  repeat' (first
   | exact af_ _ _
   | (refine ae_ ?_; simp [bo_, *]; done)
   | simp (disch := omega) only [go_sem, reduceEqDiff, ↓reduceIte]
   | (refine aa_.call (e3_ _ _) ?_)
   | (refine aa_.q (e3_ _ _) ?_)
   | (refine aa_.call (ha_ x.Value rfl) ?_)
   | (refine aa_.q (ha_ x.Value rfl) ?_)
   | ((first | (apply a1_; assumption) | (apply a0_; assumption) | (apply be_; assumption) | (apply bd_; assumption)); intro hb; try simp only [hb])
   | ((first | (apply aM_; assumption) | (apply aN_; assumption) | (apply aX_; assumption) | (apply aY_; assumption)); intro hb; try simp only [hb])
   | ((first | apply aG_ | apply aJ_ | apply ao_ | apply ar_) <;> intro hb <;> (try simp only [hb]) <;> (first | have hp := a8_ hb | have hp := a6_ hb | have hp := a7_ hb | have hp := a5_ hb | skip)))
 by_cases k5 : x.Kind = 5
 ·simp (disch := omega) only [k5, Int.reduceEq, go_sem, reduceEqDiff, Int.reduceNeg, ↓reduceIte]
  repeat' (first
   | exact af_ _ _
   | (refine ae_ ?_; simp [bo_, *]; done)
   | simp (disch := omega) only [go_sem, reduceEqDiff, Int.reduceNeg, ↓reduceIte]
   | (refine aa_.call (fZ_ _ _) ?_)
   | (refine aa_.q (fZ_ _ _) ?_)
   | ((first | (apply a1_; assumption) | (apply a0_; assumption) | (apply be_; assumption) | (apply bd_; assumption)); intro hb; try simp only [hb])
   | ((first | (apply aM_; assumption) | (apply aN_; assumption) | (apply aX_; assumption) | (apply aY_; assumption)); intro hb; try simp only [hb])
   | ((first | apply aG_ | apply aJ_ | apply ao_ | apply ar_) <;> intro hb <;> (try simp only [hb]) <;> (first | have hp := a8_ hb | have hp := a6_ hb | have hp := a7_ hb | have hp := a5_ hb | skip)))
 by_cases k6 : x.Kind = 6
 ·simp (disch := omega) only [k6, Int.reduceEq, go_sem, reduceEqDiff, Int.reduceNeg, ↓reduceIte]
  repeat' (first
   | exact af_ _ _
   | (refine ae_ ?_; simp [bo_, *]; done)
   | simp (disch := omega) only [go_sem, reduceEqDiff, ↓reduceIte]
   | (refine aa_.call (iU_ _ hv _) ?_)
   | (refine aa_.q (iU_ _ hv _) ?_)
   | ((first | (apply a1_; assumption) | (apply a0_; assumption) | (apply be_; assumption) | (apply bd_; assumption)); intro hb; try simp only [hb])
   | ((first | (apply aM_; assumption) | (apply aN_; assumption) | (apply aX_; assumption) | (apply aY_; assumption)); intro hb; try simp only [hb])
   | ((first | apply aG_ | apply aJ_ | apply ao_ | apply ar_) <;> intro hb <;> (try simp only [hb]) <;> (first | have hp := a8_ hb | have hp := a6_ hb | have hp := a7_ hb | have hp := a5_ hb | skip)))
 by_cases k2 : x.Kind = 2
 ·simp (disch := omega) only [k2, Int.reduceEq, go_sem, reduceEqDiff, Int.reduceNeg, ↓reduceIte]
  repeat' (first
   | exact af_ _ _
   | (refine ae_ ?_; simp [bo_, *]; done)
   | simp (disch := omega) only [go_sem, reduceEqDiff, ↓reduceIte]
   | (refine aa_.call (ha_ x.Value rfl) ?_)
   | (refine aa_.q (ha_ x.Value rfl) ?_)
   | ((first | (apply a1_; assumption) | (apply a0_; assumption) | (apply be_; assumption) | (apply bd_; assumption)); intro hb; try simp only [hb])
   | ((first | (apply aM_; assumption) | (apply aN_; assumption) | (apply aX_; assumption) | (apply aY_; assumption)); intro hb; try simp only [hb])
   | ((first | apply aG_ | apply aJ_ | apply ao_ | apply ar_) <;> intro hb <;> (try simp only [hb]) <;> (first | have hp := a8_ hb | have hp := a6_ hb | have hp := a7_ hb | have hp := a5_ hb | skip)))
 simp (disch := omega) only [k1, k4, k5, k6, k2, go_sem, reduceEqDiff, Int.reduceNeg, ↓reduceIte]
 repeat' (first
  | exact af_ _ _
  | (refine ae_ ?_; simp [bo_, *]; done)
  | simp (disch := omega) only [go_sem, reduceEqDiff, ↓reduceIte]
  | ((first | (apply a1_; assumption) | (apply a0_; assumption) | (apply be_; assumption) | (apply bd_; assumption)); intro hb; try simp only [hb])
  | ((first | (apply aM_; assumption) | (apply aN_; assumption) | (apply aX_; assumption) | (apply aY_; assumption)); intro hb; try simp only [hb])
  | ((first | apply aG_ | apply aJ_ | apply ao_ | apply ar_) <;> intro hb <;> (try simp only [hb]) <;> (first | have hp := a8_ hb | have hp := a6_ hb | have hp := a7_ hb | have hp := a5_ hb | skip)))
theorem en_ (s : ByteArray) (hs : s.size ≤ 1048576) (h : List Row) : aa_ prog 176 [.val (.string s)] h (.val (.bool (b7_ s.data.toList))) := by
 have := il_ s.data.toList (by rw [fq_]; omega) h
 rwa [ez_] at this
theorem fG_ (s : ByteArray) (hs : s.size ≤ 1048576) (h : List Row) : aa_ prog 177 [.val (.string s)] h (.val (.int .i64 (bX_ s.data.toList))) := by
 have := hB_ s.data.toList (by rw [fq_]; omega) h
 rwa [ez_] at this
theorem oa_ (q : Bool) (a b : ByteArray) : bl_ .lss q (.val (.string a)) (.val (.string b)) = some (.val (.bool (Op.bytesLess a.data.toList b.data.toList))) := by
 rw [qy_, ee_, ee_]
theorem yE_ (q : Bool) (a b : ByteArray) : bl_ .gtr q (.val (.string a)) (.val (.string b)) = some (.val (.bool (Op.bytesLess b.data.toList a.data.toList))) := by
 have e : bl_ .gtr q (.val (.string a)) (.val (.string b)) = some (.val (.bool (!(Op.bytesLess a.toList b.toList || a.toList == b.toList)))) := rfl
 rw [e, ee_, ee_]
 have : (!(Op.bytesLess a.data.toList b.data.toList || a.data.toList == b.data.toList)) = Op.bytesLess b.data.toList a.data.toList := by
  by_cases h1 : Op.bytesLess a.data.toList b.data.toList = true
  ·rw [h1, ni_ _ _ h1]; rfl
  ·by_cases h2 : a.data.toList = b.data.toList
   ·rw [h2, e1_]; simp
   ·have h3 : (a.data.toList == b.data.toList) = false := by simpa using h2
    have h1' : Op.bytesLess a.data.toList b.data.toList = false := by simpa using h1
    rw [h1', h3]
    by_cases h4 : Op.bytesLess b.data.toList a.data.toList = true
    ·rw [h4]; rfl
    ·exact absurd (hP_ _ _ h1' (by simpa using h4)) h2
 rw [this]
def zF_ : LC :=
 .q [.o [.f 2], .o [.m 3 0, .m 4 0, .bb 5 .neq false 3 4, .m 2 5], .ret]
def xN_ : LF := ⟨1, 6, zF_, [.tmp 2]⟩
theorem z6_ : au_ prog Tryz.f155 xN_ := ah_
theorem gP_ (s : ByteArray)  (h : List Row) : aa_ prog 155 [.val (.string s)] h (.val (.bool false)) := by
 refine aj_ mixed Tryz.func155 z6_ rfl rfl ?_ h
 simp (disch := omega) only [xN_, zF_, go_sem, reduceEqDiff, reduceCtorEq, ↓reduceIte]
 repeat' (first
  | exact af_ _ _
  | simp (disch := omega) only [go_sem, reduceEqDiff, Nat.reduceAdd, reduceLeDiff, reduceCtorEq, Int.reduceLT, Int.reduceLE, Int.reduceNeg, Int.reduceSub, Int.reduceAdd, Int.reduceToNat, ↓reduceIte]
  | ((first | (apply aM_; assumption) | (apply aN_; assumption) | (apply aX_; assumption) | (apply aY_; assumption)); intro hb; try simp only [hb])
  | ((first | apply ao_ | apply ar_) <;> intro hb <;> (try simp only [hb]) <;> (first | have hp := a8_ hb | have hp := a6_ hb | have hp := a7_ hb | have hp := a5_ hb | skip)))
def BM_ : LC :=
 .q [.o [.f 2], .o [.m 3 0, .m 4 0, .bb 5 .neq false 3 4, .m 2 5], .ret]
def wP_ : LF := ⟨1, 6, BM_, [.tmp 2]⟩
theorem Bo_ : au_ prog Tryz.f193 wP_ := ah_
theorem hu_ (s : Int)  (h : List Row) : aa_ prog 193 [.val (.int .i64 s)] h (.val (.bool false)) := by
 refine aj_ mixed Tryz.func193 Bo_ rfl rfl ?_ h
 simp (disch := omega) only [wP_, BM_, go_sem, reduceEqDiff, reduceCtorEq, ↓reduceIte]
 repeat' (first
  | exact af_ _ _
  | simp (disch := omega) only [go_sem, reduceEqDiff, Nat.reduceAdd, reduceLeDiff, reduceCtorEq, Int.reduceLT, Int.reduceLE, Int.reduceNeg, Int.reduceSub, Int.reduceAdd, Int.reduceToNat, ↓reduceIte]
  | ((first | (apply aM_; assumption) | (apply aN_; assumption) | (apply aX_; assumption) | (apply aY_; assumption)); intro hb; try simp only [hb])
  | ((first | apply ao_ | apply ar_) <;> intro hb <;> (try simp only [hb]) <;> (first | have hp := a8_ hb | have hp := a6_ hb | have hp := a7_ hb | have hp := a5_ hb | skip)))
def Au_ : LC :=
 .q [.o [.ki 4 0], .o [.m 7 0, .c1 8 193 7, .m 5 8], .o [.m 9 1, .c1 10 193 9, .m 6 10], .q [.o [.m 11 5], .k 11 (.q [.q [.o [.m 12 6], .k 12 (.q [.o [.ki 4 0], .ret]) .skip], .o [.s 4 (.mov (.const (.int .i64 (-1))))],
 .ret]) .skip], .q [.o [.m 13 6], .k 13 (.q [.o [.ki 4 1], .ret]) .skip], .q [.o [.m 14 0, .m 15 1, .bb 16 .lss false 14 15], .k 16 (.q [.o [.s 4 (.mov (.const (.int .i64 (-1))))], .ret]) .skip], .q [.o [.m 17 0, .m 18 1,
 .bb 19 .gtr false 17 18], .k 19 (.q [.o [.ki 4 1], .ret]) .skip], .o [.ki 4 0], .ret]
def xr_ : LF := ⟨2, 20, Au_, [.tmp 4]⟩
theorem AU_ : au_ prog Tryz.f180 xr_ := ah_
theorem gC_ (a b : Int)  (h : List Row) : aa_ prog 180 [.val (.int .i64 a), .val (.int .i64 b)] h (.val (.int .i64 (lx_ a b))) := by
 refine aj_ mixed Tryz.func180 AU_ rfl rfl ?_ h
 simp (disch := omega) only [xr_, Au_, go_sem, reduceCtorEq, Int.reduceNeg, ↓reduceIte]
 repeat' (first
  | exact af_ _ _
  | (refine aF_ ?_; simp only [decide_eq_true_eq, decide_eq_false_iff_not] at *; unfold lx_; (repeat' split) <;> omega)
  | simp (disch := omega) only [go_sem, reduceEqDiff, reduceCtorEq, Int.reduceNeg, ↓reduceIte]
  | (refine aa_.call (hu_ _ _) ?_)
  | (refine aa_.q (hu_ _ _) ?_)
  | ((first | (apply aM_; assumption) | (apply aN_; assumption) | (apply aX_; assumption) | (apply aY_; assumption)); intro hb; try simp only [hb])
  | ((first | apply ao_ | apply ar_) <;> intro hb <;> (try simp only [hb]) <;> (first | have hp := a8_ hb | have hp := a6_ hb | have hp := a7_ hb | have hp := a5_ hb | skip)))
def y8_ : LC :=
 .q [.o [.ki 4 0], .o [.m 7 0, .c1 8 155 7, .m 5 8], .o [.m 9 1, .c1 10 155 9, .m 6 10], .q [.o [.m 11 5], .k 11 (.q [.q [.o [.m 12 6], .k 12 (.q [.o [.ki 4 0], .ret]) .skip], .o [.s 4 (.mov (.const (.int .i64 (-1))))],
 .ret]) .skip], .q [.o [.m 13 6], .k 13 (.q [.o [.ki 4 1], .ret]) .skip], .q [.o [.m 14 0, .m 15 1, .bb 16 .lss false 14 15], .k 16 (.q [.o [.s 4 (.mov (.const (.int .i64 (-1))))], .ret]) .skip], .q [.o [.m 17 0, .m 18 1,
 .bb 19 .gtr false 17 18], .k 19 (.q [.o [.ki 4 1], .ret]) .skip], .o [.ki 4 0], .ret]
def xb_ : LF := ⟨2, 20, y8_, [.tmp 4]⟩
theorem CB_ : au_ prog Tryz.f123 xb_ := ah_
theorem es_ (a b : ByteArray)  (h : List Row) : aa_ prog 123 [.val (.string a), .val (.string b)] h (.val (.int .i64 (jh_ a.data.toList b.data.toList))) := by
 refine aj_ mixed Tryz.func123 CB_ rfl rfl ?_ h
 simp (disch := omega) only [xb_, y8_, go_sem, reduceCtorEq, Int.reduceNeg, ↓reduceIte]
 repeat' (first
  | exact af_ _ _
  | (refine aF_ ?_; simp only [jh_, *]; first | rfl | (simp; done))
  | simp (disch := omega) only [oa_, yE_, go_sem, reduceEqDiff, reduceCtorEq, Int.reduceNeg, ↓reduceIte]
  | (refine aa_.call (gP_ _ _) ?_)
  | (refine aa_.q (gP_ _ _) ?_)
  | ((first | (apply a1_; assumption) | (apply a0_; assumption) | (apply be_; assumption) | (apply bd_; assumption)); intro hb; try simp only [hb])
  | ((first | (apply aM_; assumption) | (apply aN_; assumption) | (apply aX_; assumption) | (apply aY_; assumption)); intro hb; try simp only [hb])
  | ((first | apply aG_ | apply aJ_ | apply ao_ | apply ar_) <;> intro hb <;> (try simp only [hb]) <;> (first | have hp := a8_ hb | have hp := a6_ hb | have hp := a7_ hb | have hp := a5_ hb | skip)))
def AV_ : LC :=
 .q [.o [.ki 4 0], .o [.m 7 0, .c1 8 179 7, .m 9 1, .c1 10 179 9, .m 5 8, .m 6 10], .block 0 (.q [.o [.m 12 5, .m 13 12, .gm 14 13 true 6, .pf 15 13 14, .m 11 15], .k 11 (.q [.o [.m 16 0, .c1 17 181 16, .m 18 1, .c1 19
 181 18, .c2 20 180 17 19, .m 4 20], .ret]) (.q [.o [.m 22 5, .m 21 22], .k 21 (.q [.o [.s 4 (.mov (.const (.int .i64 (-1))))], .ret]) (.q [.o [.m 24 6, .m 23 24], .k 23 (.q [.o [.ki 4 1], .ret]) .skip])])]), .o [.m 25 0,
 .m 26 1, .c2 27 123 25 26, .m 4 27], .ret]
def wX_ : LF := ⟨2, 28, AV_, [.tmp 4]⟩
theorem zJ_ : au_ prog Tryz.f157 wX_ := ah_
theorem e7_ (a b : ByteArray) (ha : a.size ≤ 1048576) (hbb : b.size ≤ 1048576) (h : List Row) : aa_ prog 157 [.val (.string a), .val (.string b)] h (.val (.int .i64 (dj_ a.data.toList b.data.toList))) := by
 refine aj_ mixed Tryz.func157 zJ_ rfl rfl ?_ h
 simp (disch := omega) only [wX_, AV_, go_sem, reduceCtorEq, Int.reduceNeg, ↓reduceIte]
 repeat' (first
  | exact af_ _ _
  | (refine aF_ ?_; simp only [dj_, *]; first | rfl | (simp; done))
  | simp (disch := omega) only [go_sem, reduceEqDiff, reduceCtorEq, Int.reduceNeg, ↓reduceIte]
  | (refine aa_.call (dI_ _ ha _) ?_)
  | (refine aa_.q (dI_ _ ha _) ?_)
  | (refine aa_.call (dI_ _ hbb _) ?_)
  | (refine aa_.q (dI_ _ hbb _) ?_)
  | (refine aa_.call (eE_ _ ha _) ?_)
  | (refine aa_.q (eE_ _ ha _) ?_)
  | (refine aa_.call (eE_ _ hbb _) ?_)
  | (refine aa_.q (eE_ _ hbb _) ?_)
  | (refine aa_.call (gC_ _ _ _) ?_)
  | (refine aa_.q (gC_ _ _ _) ?_)
  | (refine aa_.call (es_ _ _ _) ?_)
  | (refine aa_.q (es_ _ _ _) ?_)
  | ((first | (apply a1_; assumption) | (apply a0_; assumption) | (apply be_; assumption) | (apply bd_; assumption)); intro hb; try simp only [hb])
  | ((first | (apply aM_; assumption) | (apply aN_; assumption) | (apply aX_; assumption) | (apply aY_; assumption)); intro hb; try simp only [hb])
  | ((first | apply aG_ | apply aJ_ | apply ao_ | apply ar_) <;> intro hb <;> (try simp only [hb]) <;> (first | have hp := a8_ hb | have hp := a6_ hb | have hp := a7_ hb | have hp := a5_ hb | skip)))
def zb_ : LC :=
 .q [.o [.f 4], .o [.m 7 0, .c1 8 176 7, .m 5 8], .o [.m 9 1, .c1 10 176 9, .m 6 10], .q [.o [.m 11 5, .m 12 11, .gm 13 12 true 6, .pf 14 12 13], .k 14 (.q [.o [.m 15 0, .c1 16 177 15, .m 17 1, .c1 18 177 17, .bb 19 .lss
 false 16 18, .m 4 19], .ret]) .skip], .q [.o [.m 20 5, .m 21 6, .bb 22 .neq true 20 21], .k 22 (.q [.o [.m 23 5, .m 4 23], .ret]) .skip], .o [.m 24 0, .m 25 1, .bb 26 .lss false 24 25, .m 4 26], .ret]
def w9_ : LF := ⟨2, 27, zb_, [.tmp 4]⟩
theorem AX_ : au_ prog Tryz.f172 w9_ := ah_
theorem fK_ (a b : ByteArray) (ha : a.size ≤ 1048576) (hbb : b.size ≤ 1048576) (h : List Row) : aa_ prog 172 [.val (.string a), .val (.string b)] h (.val (.bool (before a.data.toList b.data.toList))) := by
 refine aj_ mixed Tryz.func172 AX_ rfl rfl ?_ h
 simp (disch := omega) only [w9_, zb_, go_sem, reduceCtorEq, ↓reduceIte]
 repeat' (first
  | exact af_ _ _
  | (refine ae_ ?_; simp only [before, *]; first | rfl | (simp; done))
  | (refine ae_ ?_; simp_all [before]; done)
  | simp (disch := omega) only [oa_, p5_, go_sem, reduceEqDiff, reduceCtorEq, ↓reduceIte]
  | (refine aa_.call (en_ _ ha _) ?_)
  | (refine aa_.q (en_ _ ha _) ?_)
  | (refine aa_.call (en_ _ hbb _) ?_)
  | (refine aa_.q (en_ _ hbb _) ?_)
  | (refine aa_.call (fG_ _ ha _) ?_)
  | (refine aa_.q (fG_ _ ha _) ?_)
  | (refine aa_.call (fG_ _ hbb _) ?_)
  | (refine aa_.q (fG_ _ hbb _) ?_)
  | ((first | (apply a1_; assumption) | (apply a0_; assumption) | (apply be_; assumption) | (apply bd_; assumption)); intro hb; try simp only [hb])
  | ((first | (apply aM_; assumption) | (apply aN_; assumption) | (apply aX_; assumption) | (apply aY_; assumption)); intro hb; try simp only [hb])
  | ((first | apply aG_ | apply aJ_ | apply ao_ | apply ar_) <;> intro hb <;> (try simp only [hb]) <;> (first | have hp := a8_ hb | have hp := a6_ hb | have hp := a7_ hb | have hp := a5_ hb | skip)))
def B3_ : LC :=
 .q [.o [.f 4], .o [.m 5 0, .m 6 1, .c2 7 172 5 6, .m 4 7], .ret]
def xS_ : LF := ⟨2, 8, B3_, [.tmp 4]⟩
theorem A1_ : au_ prog Tryz.f152 xS_ := ah_
theorem dD_ (a b : ByteArray) (ha : a.size ≤ 1048576) (hbb : b.size ≤ 1048576) (h : List Row) : aa_ prog 152 [.val (.string a), .val (.string b)] h (.val (.bool (before a.data.toList b.data.toList))) := by
 refine aj_ mixed Tryz.func152 A1_ rfl rfl ?_ h
 simp (disch := omega) only [xS_, B3_, go_sem, reduceEqDiff, reduceCtorEq, ↓reduceIte]
 repeat' (first
  | exact af_ _ _
  | simp (disch := omega) only [go_sem, ↓reduceIte]
  | (refine aa_.call (fK_ _ _ ha hbb _) ?_)
  | (refine aa_.q (fK_ _ _ ha hbb _) ?_)
  | ((first | (apply aM_; assumption) | (apply aN_; assumption) | (apply aX_; assumption) | (apply aY_; assumption)); intro hb; try simp only [hb])
  | ((first | apply ao_ | apply ar_) <;> intro hb <;> (try simp only [hb]) <;> (first | have hp := a8_ hb | have hp := a6_ hb | have hp := a7_ hb | have hp := a5_ hb | skip)))
def gA_ (c : ByteArray → ByteArray → Int) : List ByteArray → List ByteArray → Int
 | [], [] => 0
 | [], _ :: _ => -1
 | _ :: _, [] => 1
 | x :: xs, y :: ys => if c x y = 0 then gA_ c xs ys else c x y
theorem r2_ (c : ByteArray → ByteArray → Int) (xs ys : List ByteArray) (k : Nat) (h1 : k < xs.length) (h2 : k < ys.length) : gA_ c (xs.drop k) (ys.drop k) = if c xs[k] ys[k] = 0 then gA_ c (xs.drop (k + 1)) (ys.drop (k + 1)) else c xs[k] ys[k] := by
 rw [drop_eq_getElem_cons h1, drop_eq_getElem_cons h2]; rfl
theorem s3_ (c : ByteArray → ByteArray → Int) (xs ys : List ByteArray) (k : Nat) (h1 : k < xs.length) (h2 : ys.length ≤ k) : gA_ c (xs.drop k) (ys.drop k) = 1 := by
 rw [drop_eq_getElem_cons h1, drop_eq_nil_of_le h2]; rfl
theorem rj_ (c : ByteArray → ByteArray → Int) (xs ys : List ByteArray) (k : Nat) (h1 : xs.length ≤ k) (h2 : k < ys.length) : gA_ c (xs.drop k) (ys.drop k) = -1 := by
 rw [drop_eq_nil_of_le h1, drop_eq_getElem_cons h2]; rfl
theorem tO_ (c : ByteArray → ByteArray → Int) (xs ys : List ByteArray) (k : Nat) (h1 : xs.length ≤ k) (h2 : ys.length ≤ k) : gA_ c (xs.drop k) (ys.drop k) = 0 := by
 rw [drop_eq_nil_of_le h1, drop_eq_nil_of_le h2]; rfl
def At_ : LC :=
 .q [.o [.ki 6 0], .q [.o [.m 11 0, .ll 12 11, .ki 13 0], .block 0 (.loop (.q [.o [.bb 14 .lss false 13 12], .k 14 .skip (.exit 0), .block 1 (.q [.o [.m 15 13, .ia 16 1 11 13, .ln 17 16, .m 7 15, .m 8 17], .q [.o [.m 18
 7, .m 19 1, .ll 20 19, .bb 21 .geq false 18 20], .k 21 (.q [.o [.ki 6 1], .ret]) .skip], .o [.m 22 1, .m 23 7, .ia 24 1 22 23, .ln 25 24, .m 9 25], .o [.m 26 2, .m 27 8, .m 28 9, .s 29 (.callv (.tmp 26) [.tmp 27, .tmp
 28]), .m 10 29], .o [.m 30 10, .bk 31 .neq false 30 0], .k 31 (.q [.o [.m 32 10, .m 6 32], .ret]) .skip]), .o [.bk 33 .add false 13 1, .m 13 33]]))], .q [.o [.m 34 0, .ll 35 34, .m 36 1, .ll 37 36, .bb 38 .lss false 35
 37], .k 38 (.q [.o [.s 6 (.mov (.const (.int .i64 (-1))))], .ret]) .skip], .o [.ki 6 0], .ret]
def wS_ : LF := ⟨3, 39, At_, [.tmp 6]⟩
theorem y1_ : au_ prog Tryz.f156 wS_ := ah_
theorem eq_ (xs ys : List ByteArray) (c : ByteArray → ByteArray → Int) (g : Nat) (hx : xs.length ≤ 1048576) (hy : ys.length ≤ 1048576) (hc : cC_ prog g = true) (hp : ∀ x ∈ xs, ∀ y ∈ ys, ∀ h, aa_ prog g [.val (.string x), .val (.string y)] h (.val (.int .i64 (c x y)))) (h : List Row) :
 aa_ prog 156 [.list 0 1 (xs.map am_), .list 0 1 (ys.map am_), .fn g [] []] h (.val (.int .i64 (gA_ c xs ys))) := by
 refine aj_ mixed Tryz.func156 y1_ rfl rfl ?_ h
 simp (disch := omega) only [wS_, At_, go_sem, reduceCtorEq, Int.reduceNeg, ↓reduceIte]
 refine aP_ (fun n t h => ∃ k : Nat, t 0 = .list 0 1 (xs.map am_) ∧ t 1 = .list 0 1 (ys.map am_) ∧ t 2 = .fn g [] [] ∧ t 11 = .list 0 1 (xs.map am_) ∧ t 12 = .val (.int .i64 xs.length) ∧ t 13 = .val (.int .i64 k) ∧ n = xs.length - k ∧ k ≤ xs.length ∧ k ≤ ys.length ∧ gA_ c xs ys = gA_ c (xs.drop k) (ys.drop k)) xs.length ?_ ?_
 ·exact ⟨0, rfl, rfl, rfl, rfl, rfl, rfl, rfl, Nat.zero_le _, Nat.zero_le _, rfl⟩
 ·rintro J hJ n t h ⟨k, t0, t1, t2, t11, t12, t13, rfl, hk, hk2, hS⟩
  by_cases hlt : k < xs.length
  ·by_cases hlt2 : k < ys.length
   ·have hge : ¬ ((ys.length : Int) ≤ k) := by omega
    rw [r2_ c xs ys k hlt hlt2] at hS
    simp (disch := omega) only [t1, t2, t11, t12, t13, hlt, hge, hc, am_, go_sem, reduceEqDiff, Int.reduceNeg, ↓reduceIte]
    refine aa_.call (hp xs[k] (getElem_mem hlt) ys[k] (getElem_mem hlt2) _) ?_
    by_cases e : c xs[k] ys[k] = 0
    ·simp (disch := omega) only [t13, e, go_sem, reduceEqDiff, Int.reduceNeg, ↓reduceIte]
     exact ⟨xs.length - (k + 1), by omega, hJ _ _ _ ⟨k + 1, by simp [upd, t0], by simp [upd, t1], by simp [upd, t2], by simp [upd, t11], by simp [upd, t12], by simp [upd], rfl, by omega, by omega, by rw [hS, if_pos e]⟩⟩
    ·simp (disch := omega) only [e, go_sem, reduceEqDiff, Int.reduceNeg, ↓reduceIte]
     exact aF_ (by rw [hS, if_neg e])
   ·have hge : ((ys.length : Int) ≤ k) := by omega
    simp (disch := omega) only [t1, t11, t12, t13, hlt, hge, am_, go_sem, reduceEqDiff, Int.reduceNeg, ↓reduceIte]
    exact aF_ (by rw [hS, s3_ c xs ys k hlt (by omega)])
  ·by_cases hlt2 : k < ys.length
   ·have hl : (xs.length : Int) < ys.length := by omega
    simp (disch := omega) only [t0, t1, t12, t13, hlt, hl, go_sem, reduceEqDiff, reduceCtorEq, Int.reduceNeg, ↓reduceIte]
    exact aF_ (by rw [hS, rj_ c xs ys k (by omega) hlt2])
   ·have hl : ¬ ((xs.length : Int) < ys.length) := by omega
    simp (disch := omega) only [t0, t1, t12, t13, hlt, hl, go_sem, reduceEqDiff, reduceCtorEq, Int.reduceNeg, ↓reduceIte]
    exact aF_ (by rw [hS, tO_ c xs ys k (by omega) (by omega)])
theorem kz_ : ∀ xs ys : List ByteArray, gA_ (fun a b => dj_ a.data.toList b.data.toList) xs ys = fL_ (bss xs) (bss ys)
 | [], [] => rfl
 | [], _ :: _ => rfl
 | _ :: _, [] => rfl
 | x :: xs, y :: ys => by simp only [gA_, bss, map_cons, fL_]; rw [kz_ xs ys]
theorem e0_ {xs : List ByteArray} {b : Nat} (h : an_ ByteArray.size xs ≤ b) {s : ByteArray} (hs : s ∈ xs) : s.size ≤ b := by
 have := bP_ (f := ByteArray.size) hs; omega
def AZ_ : LC :=
 .q [.o [.ki 4 0], .o [.m 5 0, .m 6 1, .s 7 (.call 156 [.tmp 5, .tmp 6, .func 157]), .m 4 7], .ret]
def w7_ : LF := ⟨2, 8, AZ_, [.tmp 4]⟩
theorem zc_ : au_ prog Tryz.f124 w7_ := ah_
theorem eS_ (a b : List ByteArray) (ha : an_ ByteArray.size a ≤ 1048576) (hb : an_ ByteArray.size b ≤ 1048576) (h : List Row) : aa_ prog 124 [.list 0 1 (a.map am_), .list 0 1 (b.map am_)] h (.val (.int .i64 (fL_ (bss a) (bss b)))) := by
 refine aj_ mixed Tryz.func124 zc_ rfl rfl ?_ h
 simp (disch := omega) only [w7_, AZ_, go_sem, reduceEqDiff, reduceCtorEq, ↓reduceIte]
 repeat' (first
  | exact af_ _ _
  | exact aF_ (kz_ a b)
  | simp (disch := omega) only [go_sem, ↓reduceIte]
  | (refine aa_.call (eq_ a b (fun a b => dj_ a.data.toList b.data.toList) 157 (aA_ ha) (aA_ hb) (by kernel_rfl) (fun x hx y hy h => e7_ x y (e0_ ha hx) (e0_ hb hy) h) _) ?_)
  | (refine aa_.q (eq_ a b (fun a b => dj_ a.data.toList b.data.toList) 157 (aA_ ha) (aA_ hb) (by kernel_rfl) (fun x hx y hy h => e7_ x y (e0_ ha hx) (e0_ hb hy) h) _) ?_)
  | ((first | (apply aM_; assumption) | (apply aN_; assumption) | (apply aX_; assumption) | (apply aY_; assumption)); intro hb; try simp only [hb])
  | ((first | apply ao_ | apply ar_) <;> intro hb <;> (try simp only [hb]) <;> (first | have hp := a8_ hb | have hp := a6_ hb | have hp := a7_ hb | have hp := a5_ hb | skip)))
def orL : List Int → Int
 | [] => 0
 | x :: xs => if x = 0 then orL xs else x
theorem uU_ (xs : List Int) (k : Nat) (h : k < xs.length) : orL (xs.drop k) = if xs[k] = 0 then orL (xs.drop (k + 1)) else xs[k] := by
 rw [drop_eq_getElem_cons h]; rfl
theorem yK_ (xs : List Int) (k : Nat) (h : xs.length ≤ k) : orL (xs.drop k) = 0 := by
 rw [drop_eq_nil_of_le h]; rfl
def yU_ : LC :=
 .q [.o [.ki 2 0], .o [.ki 3 0], .q [.o [.m 6 0, .ll 7 6, .ki 8 0], .block 0 (.loop (.q [.o [.bb 9 .lss false 8 7], .k 9 .skip (.exit 0), .block 1 (.q [.o [.ia 10 1 6 8, .ln 11 10, .m 5 11], .o [.m 12 5, .m 13 3, .bb 14
 .neq false 12 13], .k 14 (.q [.o [.m 15 5, .m 2 15], .ret]) .skip]), .o [.bk 16 .add false 8 1, .m 8 16]]))], .o [.m 17 3, .m 2 17], .ret]
def xB_ : LF := ⟨1, 18, yU_, [.tmp 2]⟩
theorem BP_ : au_ prog Tryz.f122 xB_ := ah_
theorem o2_ (xs : List Int) (hx : xs.length ≤ 1048576) (h : List Row) : aa_ prog 122 [.list 0 1 (xs.map fun x => [.val (.int .i64 x)])] h (.val (.int .i64 (orL xs))) := by
 refine aj_ mixed Tryz.func122 BP_ rfl rfl ?_ h
 simp (disch := omega) only [xB_, yU_, go_sem, reduceCtorEq, ↓reduceIte]
 refine aP_ (fun n t h => ∃ k : Nat, t 3 = .val (.int .i64 0) ∧ t 6 = .list 0 1 (xs.map fun x => [.val (.int .i64 x)]) ∧ t 7 = .val (.int .i64 xs.length) ∧ t 8 = .val (.int .i64 k) ∧ n = xs.length - k ∧ k ≤ xs.length ∧ orL xs = orL (xs.drop k)) xs.length ?_ ?_
 ·exact ⟨0, rfl, rfl, rfl, rfl, rfl, Nat.zero_le _, rfl⟩
 ·rintro J hJ n t h ⟨k, t3, t6, t7, t8, rfl, hk, hS⟩
  by_cases hlt : k < xs.length
  ·rw [uU_ xs k hlt] at hS
   by_cases e : xs[k] = 0
   ·simp (disch := omega) only [t3, t6, t7, t8, hlt, e, go_sem, reduceEqDiff, ↓reduceIte]
    exact ⟨xs.length - (k + 1), by omega, hJ _ _ _ ⟨k + 1, by simp [upd, t3], by simp [upd, t6], by simp [upd, t7], by simp [upd], rfl, by omega, by rw [hS, if_pos e]⟩⟩
   ·simp (disch := omega) only [t3, t6, t7, t8, hlt, e, go_sem, reduceEqDiff, ↓reduceIte]
    exact aF_ (by rw [hS, if_neg e])
  ·simp (disch := omega) only [t3, t7, t8, hlt, go_sem, reduceEqDiff, ↓reduceIte]
   exact aF_ (by rw [hS, yK_ _ _ (by omega)])
theorem to_ (a b : Int) (h : List Row) : aa_ prog 122 [.list 0 1 [[.val (.int .i64 a)], [.val (.int .i64 b)]]] h (.val (.int .i64 (if a = 0 then b else a))) := by
 have := o2_ [a, b] (by simp) h
 have e : orL [a, b] = if a = 0 then b else a := by
  simp only [orL]; split
  ·split
   ·omega
   ·rfl
  ·rfl
 rwa [e] at this
theorem tc_ (a b : Int) (E : Tag) (l : Nat) (H : List Row) (K : AV → List Row → Prop) (hl : H[l]? = some ⟨E, 1, [[.val (.int .i64 a)], [.val (.int .i64 b)]]⟩) (hk : K (.val (.int .i64 (if a = 0 then b else a))) H) : callSem prog 122 [.own l 2] H K :=
 p1_ (rs := [.list 0 1 [[.val (.int .i64 a)], [.val (.int .i64 b)]]]) (fun h => to_ a b h) (show aw_ H [.own l 2] _ from ⟨_, [], rfl, .inr ⟨2, [l], ⟨_, [[.val (.int .i64 a)], [.val (.int .i64 b)]], [], hl, rfl, by
  refine ⟨_, _, [], [], rfl, rfl, ⟨_, _, [], [], rfl, rfl, ⟨rfl, .inl rfl⟩, ⟨rfl, rfl⟩⟩, ⟨_, _, [], [], rfl, rfl, ⟨_, _, [], [], rfl, rfl, ⟨rfl, .inl rfl⟩, ⟨rfl, rfl⟩⟩, ⟨rfl, rfl⟩⟩⟩, rfl, rfl⟩⟩, rfl⟩) hk
def c89 : LC :=
 .q [.o [.ki 8 0], .o [.m 9 0, .m 10 2, .c2 11 123 9 10, .m 12 1, .m 13 3, .c2 14 124 12 13, .s 15 (.buildSlice 3 1 (.int .i64 0) 2 [(0, .tmp 11), (1, .tmp 14)]), .c1 16 122 15, .m 8 16], .ret]
def ze_ : LF := ⟨4, 17, c89, [.tmp 8]⟩
theorem Ed_ : au_ prog Tryz.f89 ze_ := ah_
theorem dM_ (n : ByteArray) (s : List ByteArray) (o : ByteArray) (os : List ByteArray) (hs : an_ ByteArray.size s ≤ 1048576) (hos : an_ ByteArray.size os ≤ 1048576) (h : List Row) :
 aa_ prog 89 [.val (.string n), .list 0 1 (s.map am_), .val (.string o), .list 0 1 (os.map am_)] h (.val (.int .i64 (g6_ n.data.toList (bss s) o.data.toList (bss os)))) := by
 refine aj_ mixed Tryz.func89 Ed_ rfl rfl ?_ h
 simp (disch := omega) only [ze_, c89, go_sem, reduceEqDiff, reduceCtorEq, ↓reduceIte]
 refine aa_.call (es_ _ _ _) ?_
 simp (disch := omega) only [go_sem, reduceEqDiff, ↓reduceIte]
 refine aa_.call (eS_ _ _ hs hos _) ?_
 simp (disch := omega) only [go_sem, reduceEqDiff, ↓reduceIte]
 refine tc_ _ _ _ _ _ _ rfl ?_
 simp (disch := omega) only [go_sem, ↓reduceIte]
 exact aF_ rfl
def dT_ (xs : List ByteArray) : ByteArray := xs.getLastD (txt [])
theorem gg_ (xs : List ByteArray) (h : xs.length - 1 < xs.length) : xs[xs.length - 1] = dT_ xs := by
 have hne : xs ≠ [] := by intro e; subst e; simp at h
 rw [← getLast_eq_getElem hne, dT_, getLastD_eq_getLast?, getLast?_eq_some_getLast hne]; rfl
def b2_ (xs : List ByteArray) : List ByteArray := xs.take (xs.length - 1)
def gv_ (xs : List ByteArray) : Bool := decide (0 < (xs.length : Int)) && (bm_ xs || (decide (dT_ xs = txt []) && bm_ (b2_ xs)))
def c94 : LC :=
 .q [.o [.f 2], .o [.m 4 0, .ll 5 4, .m 3 5], .o [.m 6 3, .bk 7 .gtr false 6 0, .m 8 7, .gm 9 8 true 0, .gc 10 8 true 95 9, .gm 11 8 true 10, .gm 12 11 false 0, .gm 13 11 false 3, .g 14 11 false (.bin .sub false (.tmp 13)
 (.const (.int .i64 1))), .g 15 11 false (.indexAddr 1 (.tmp 12) (.tmp 14)), .gn 16 11 false 15, .g 17 11 false (.bin .eql false (.tmp 16) (.const (.string ⟨#[]⟩))), .gm 18 11 false 17, .gm 19 18 true 0, .gm 20 18 true 3,
 .g 21 18 true (.bin .sub false (.tmp 20) (.const (.int .i64 1))), .g 22 18 true (.sliceSl 1 (.tmp 19) none (some (.tmp 21))), .gc 23 18 true 95 22, .g 24 11 false (.pick (.tmp 18) (.tmp 23) (.const (.bool false))), .g 25
 8 true (.pick (.tmp 11) (.const (.bool true)) (.tmp 24)), .pf 26 8 25, .m 2 26], .ret]
def ve_ : LF := ⟨1, 27, c94, [.tmp 2]⟩
theorem DX_ : au_ prog Tryz.f94 ve_ := ah_
theorem hO_ (xs : List ByteArray) (hx : xs.length ≤ 1048576) (h : List Row) : aa_ prog 94 [.list 0 1 (xs.map am_)] h (.val (.bool (gv_ xs))) := by
 refine aj_ mixed Tryz.func94 DX_ rfl rfl ?_ h
 by_cases h0 : xs.length = 0
 ·have h0' : ((0 : Int) < xs.length) = False := eq_false (by omega)
  simp (disch := omega) only [ve_, c94, h0', go_sem, reduceEqDiff, reduceCtorEq, ↓reduceIte]
  exact ae_ (by simp [gv_, h0])
 ·have h0' : ((0 : Int) < xs.length) = True := eq_true (by omega)
  have hsub : ((xs.length : Int) - 1) = ((xs.length - 1 : Nat) : Int) := by omega
  have hlt : xs.length - 1 < xs.length := by omega
  have hfr : xs.take (xs.length - 1) = b2_ xs := rfl
  have hfl : (b2_ xs).length ≤ 1048576 := by rw [b2_, length_take]; omega
  have hw : IntKind.i64.wrap ((xs.length : Int) - 1) = ((xs.length - 1 : Nat) : Int) := by rw [aq_ (n := (xs.length : Int) - 1) (by omega) (by omega)]; omega
  simp (disch := omega) only [ve_, c94, h0', go_sem, reduceEqDiff, reduceCtorEq, ↓reduceIte]
  repeat' (first
   | exact af_ _ _
   | (refine ae_ ?_; simp only [gv_, *, Bool.true_and, Bool.and_false, Bool.false_and, Bool.true_or, Bool.false_or, decide_true, Bool.and_self, Bool.or_self]; done)
   | simp (disch := omega) only [hw, fj_, hfr, gg_, am_, go_sem, reduceEqDiff, reduceCtorEq, ↓reduceIte]
   | (refine aa_.call (ce_ _ hx _) ?_)
   | (refine aa_.q (ce_ _ hx _) ?_)
   | (refine aa_.call (ce_ _ hfl _) ?_)
   | (refine aa_.q (ce_ _ hfl _) ?_)
   | ((first | (apply a1_; assumption) | (apply a0_; assumption) | (apply be_; assumption) | (apply bd_; assumption)); intro hb; try simp only [hb])
   | ((first | (apply aM_; assumption) | (apply aN_; assumption) | (apply aX_; assumption) | (apply aY_; assumption)); intro hb; try simp only [hb])
   | ((first | apply aG_ | apply aJ_ | apply ao_ | apply ar_) <;> intro hb <;> (try simp only [hb]) <;> (first | have hp := a8_ hb | have hp := a6_ hb | have hp := a7_ hb | have hp := a5_ hb | skip)))
def bD_ (x : ab_) : Bool := bY_ x.Name && bo_ x && (if x.Kind = 5 then decide ((x.Subs.length : Int) ≤ 4) && gv_ x.Subs else bm_ x.Subs)
def c45 : LC :=
 .q [.o [.bx 1 44 0, .f 2], .q [.o [.fa 3 1 1, .ln 4 3, .c1 5 92 4, .nt 6 5, .m 7 6, .gl 8 7 false 5 1, .gc 9 7 false 93 8, .gu 10 7 false 9, .pt 11 7 10], .k 11 (.q [.o [.f 2], .ret]) .skip], .q [.o [.fa 12 0 1, .ln 13
 12, .bk 14 .eql false 13 5], .k 14 (.q [.o [.fa 15 2 1, .ln 16 15, .ll 17 16, .bk 18 .leq false 17 4, .m 19 18, .gf 20 19 true 2 1, .gn 21 19 true 20, .gc 22 19 true 94 21, .pf 23 19 22, .m 2 23], .ret]) .skip], .o [.fa
 24 2 1, .ln 25 24, .c1 26 95 25, .m 2 26], .ret]
def vR_ : LF := ⟨1, 27, c45, [.tmp 2]⟩
theorem DZ_ : au_ prog Tryz.f45 vR_ := ah_
theorem iV_ (x : ab_) (hx : ab_.sz x ≤ 1048576) (h : List Row) : aa_ prog 45 [.agg (ab_.cells x)] h (.val (.bool (bD_ x))) := by
 refine aj_ mixed Tryz.func45 DZ_ rfl rfl ?_ h
 have h1 := ab_.sz_Name hx
 have h2 := aA_ (ab_.sz_Subs hx)
 by_cases k5 : x.Kind = 5
 ·simp (disch := omega) only [vR_, c45, ab_.cells, k5, go_sem, reduceEqDiff, Nat.reduceAdd, ↓reduceIte]
  have hN : bD_ x = (bY_ x.Name && bo_ x && (decide ((x.Subs.length : Int) ≤ 4) && gv_ x.Subs)) := by rw [bD_, if_pos k5]
  have hR := fun h => f6_ x hx h
  simp only [ab_.cells, k5] at hR
  repeat' (first
   | exact af_ _ _
   | (refine ae_ ?_; rw [hN]; simp only [*, Bool.true_and, Bool.and_false, Bool.false_and, decide_true, decide_false, Bool.and_self]; done)
   | simp (disch := omega) only [go_sem, reduceEqDiff, Nat.reduceAdd, ↓reduceIte]
   | (refine aa_.call (dE_ _ h1 _) ?_)
   | (refine aa_.q (dE_ _ h1 _) ?_)
   | (refine aa_.call (hR _) ?_)
   | (refine aa_.q (hR _) ?_)
   | (refine aa_.call (hO_ _ h2 _) ?_)
   | (refine aa_.q (hO_ _ h2 _) ?_)
   | ((first | (apply a1_; assumption) | (apply a0_; assumption) | (apply be_; assumption) | (apply bd_; assumption)); intro hb; try simp only [hb])
   | ((first | (apply aM_; assumption) | (apply aN_; assumption) | (apply aX_; assumption) | (apply aY_; assumption)); intro hb; try simp only [hb])
   | ((first | apply aG_ | apply aJ_ | apply ao_ | apply ar_) <;> intro hb <;> (try simp only [hb]) <;> (first | have hp := a8_ hb | have hp := a6_ hb | have hp := a7_ hb | have hp := a5_ hb | skip)))
 ·have hN : bD_ x = (bY_ x.Name && bo_ x && bm_ x.Subs) := by rw [bD_, if_neg k5]
  simp (disch := omega) only [vR_, c45, ab_.cells, go_sem, reduceEqDiff, Nat.reduceAdd, ↓reduceIte]
  repeat' (first
   | exact af_ _ _
   | (refine ae_ ?_; rw [hN]; simp only [*, Bool.true_and, Bool.and_false, Bool.false_and, Bool.and_self]; done)
   | simp (disch := omega) only [k5, go_sem, reduceEqDiff, Nat.reduceAdd, ↓reduceIte]
   | (refine aa_.call (dE_ _ h1 _) ?_)
   | (refine aa_.q (dE_ _ h1 _) ?_)
   | (refine aa_.call (f6_ x hx _) ?_)
   | (refine aa_.q (f6_ x hx _) ?_)
   | (refine aa_.call (ce_ _ h2 _) ?_)
   | (refine aa_.q (ce_ _ h2 _) ?_)
   | ((first | (apply a1_; assumption) | (apply a0_; assumption) | (apply be_; assumption) | (apply bd_; assumption)); intro hb; try simp only [hb])
   | ((first | (apply aM_; assumption) | (apply aN_; assumption) | (apply aX_; assumption) | (apply aY_; assumption)); intro hb; try simp only [hb])
   | ((first | apply aG_ | apply aJ_ | apply ao_ | apply ar_) <;> intro hb <;> (try simp only [hb]) <;> (first | have hp := a8_ hb | have hp := a6_ hb | have hp := a7_ hb | have hp := a5_ hb | skip)))
def bQ_ (x : ab_) : Bool := decide (x.Kind = 1) || decide (x.Kind = 4) || decide (x.Kind = 5) || decide (x.Kind = 6)
def bJ_ (x : ab_) : Bool := decide (x.Kind = 2) || decide (x.Kind = 3)
def c33 : LC :=
 .q [.o [.bx 1 44 0, .f 2], .o [.fa 3 0 1, .ln 4 3, .bk 5 .eql false 4 1, .m 6 5, .gf 7 6 false 0 1, .gn 8 6 false 7, .g 9 6 false (.bin .eql false (.tmp 8) (.const (.int .i64 4))), .pt 10 6 9, .m 11 10, .gf 12 11 false 0
 1, .gn 13 11 false 12, .g 14 11 false (.bin .eql false (.tmp 13) (.const (.int .i64 5))), .pt 15 11 14, .m 16 15, .gf 17 16 false 0 1, .gn 18 16 false 17, .g 19 16 false (.bin .eql false (.tmp 18) (.const (.int .i64
 6))), .pt 20 16 19, .m 2 20], .ret]
def Ag_ : LF := ⟨1, 21, c33, [.tmp 2]⟩
theorem Dw_ : au_ prog Tryz.f33 Ag_ := ah_
theorem i6_ (x : ab_)  (h : List Row) : aa_ prog 33 [.agg (ab_.cells x)] h (.val (.bool (bQ_ x))) := by
 refine aj_ mixed Tryz.func33 Dw_ rfl rfl ?_ h
 simp (disch := omega) only [Ag_, c33, ab_.cells, go_sem, reduceEqDiff, Nat.reduceAdd, ↓reduceIte]
 repeat' (first
  | exact af_ _ _
  | (refine ae_ ?_; simp [bQ_, *]; done)
  | simp (disch := omega) only [go_sem, reduceEqDiff, ↓reduceIte]
  | ((first | (apply a1_; assumption) | (apply a0_; assumption) | (apply be_; assumption) | (apply bd_; assumption)); intro hb; try simp only [hb])
  | ((first | (apply aM_; assumption) | (apply aN_; assumption) | (apply aX_; assumption) | (apply aY_; assumption)); intro hb; try simp only [hb])
  | ((first | apply aG_ | apply aJ_ | apply ao_ | apply ar_) <;> intro hb <;> (try simp only [hb]) <;> (first | have hp := a8_ hb | have hp := a6_ hb | have hp := a7_ hb | have hp := a5_ hb | skip)))
def c36 : LC :=
 .q [.o [.bx 1 44 0, .f 2], .o [.fa 3 0 1, .ln 4 3, .bk 5 .eql false 4 2, .m 6 5, .gf 7 6 false 0 1, .gn 8 6 false 7, .g 9 6 false (.bin .eql false (.tmp 8) (.const (.int .i64 3))), .pt 10 6 9, .m 2 10], .ret]
def zx_ : LF := ⟨1, 11, c36, [.tmp 2]⟩
theorem C9_ : au_ prog Tryz.f36 zx_ := ah_
theorem iH_ (x : ab_)  (h : List Row) : aa_ prog 36 [.agg (ab_.cells x)] h (.val (.bool (bJ_ x))) := by
 refine aj_ mixed Tryz.func36 C9_ rfl rfl ?_ h
 simp (disch := omega) only [zx_, c36, ab_.cells, go_sem, reduceEqDiff, Nat.reduceAdd, ↓reduceIte]
 repeat' (first
  | exact af_ _ _
  | (refine ae_ ?_; simp [bJ_, *]; done)
  | simp (disch := omega) only [go_sem, reduceEqDiff, ↓reduceIte]
  | ((first | (apply a1_; assumption) | (apply a0_; assumption) | (apply be_; assumption) | (apply bd_; assumption)); intro hb; try simp only [hb])
  | ((first | (apply aM_; assumption) | (apply aN_; assumption) | (apply aX_; assumption) | (apply aY_; assumption)); intro hb; try simp only [hb])
  | ((first | apply aG_ | apply aJ_ | apply ao_ | apply ar_) <;> intro hb <;> (try simp only [hb]) <;> (first | have hp := a8_ hb | have hp := a6_ hb | have hp := a7_ hb | have hp := a5_ hb | skip)))
def c97 : LC :=
 .q [.o [.bx 1 44 0, .f 2], .o [.fa 3 0 1, .ln 4 3, .bk 5 .eql false 4 2, .m 6 5, .gf 7 6 false 0 1, .gn 8 6 false 7, .g 9 6 false (.bin .eql false (.tmp 8) (.const (.int .i64 3))), .pt 10 6 9, .m 2 10], .ret]
def AC_ : LF := ⟨1, 11, c97, [.tmp 2]⟩
theorem Ek_ : au_ prog Tryz.f97 AC_ := ah_
theorem iO_ (x : ab_)  (h : List Row) : aa_ prog 97 [.agg (ab_.cells x)] h (.val (.bool (bJ_ x))) := by
 refine aj_ mixed Tryz.func97 Ek_ rfl rfl ?_ h
 simp (disch := omega) only [AC_, c97, ab_.cells, go_sem, reduceEqDiff, Nat.reduceAdd, ↓reduceIte]
 repeat' (first
  | exact af_ _ _
  | (refine ae_ ?_; simp [bJ_, *]; done)
  | simp (disch := omega) only [go_sem, reduceEqDiff, ↓reduceIte]
  | ((first | (apply a1_; assumption) | (apply a0_; assumption) | (apply be_; assumption) | (apply bd_; assumption)); intro hb; try simp only [hb])
  | ((first | (apply aM_; assumption) | (apply aN_; assumption) | (apply aX_; assumption) | (apply aY_; assumption)); intro hb; try simp only [hb])
  | ((first | apply aG_ | apply aJ_ | apply ao_ | apply ar_) <;> intro hb <;> (try simp only [hb]) <;> (first | have hp := a8_ hb | have hp := a6_ hb | have hp := a7_ hb | have hp := a5_ hb | skip)))
def cH_ (x : ab_) : Bool := bY_ x.Name && (if x.Kind = 5 then decide (0 < (x.Subs.length : Int)) && decide ((x.Subs.length : Int) ≤ 4) && bm_ (b2_ x.Subs) && (decide (dT_ x.Subs = txt []) || b0_ (dT_ x.Subs)) else bm_ x.Subs)
def c72 : LC :=
 .q [.o [.bx 1 44 0, .f 2], .q [.o [.fa 4 1 1, .ln 5 4, .c1 6 107 5, .nt 7 6], .k 7 (.q [.o [.f 2], .ret]) .skip], .q [.o [.fa 8 0 1, .ln 9 8, .bk 10 .neq false 9 5], .k 10 (.q [.o [.fa 11 2 1, .ln 12 11, .c1 13 76 12, .m
 2 13], .ret]) .skip], .o [.fa 14 2 1, .ln 15 14, .ll 16 15, .m 3 16], .q [.o [.m 17 3, .bk 18 .lss false 17 1, .m 19 18, .gm 20 19 false 3, .g 21 19 false (.bin .gtr false (.tmp 20) (.const (.int .i64 4))), .pt 22 19 21,
 .m 23 22, .gf 24 23 false 2 1, .gn 25 23 false 24, .gm 26 23 false 3, .g 27 23 false (.bin .sub false (.tmp 26) (.const (.int .i64 1))), .g 28 23 false (.sliceSl 1 (.tmp 25) none (some (.tmp 27))), .gc 29 23 false 76 28,
 .gu 30 23 false 29, .pt 31 23 30], .k 31 (.q [.o [.f 2], .ret]) .skip], .o [.fa 32 2 1, .ln 33 32, .m 34 3, .bk 35 .sub false 34 1, .ia 36 1 33 35, .ln 37 36, .s 38 (.bin .eql false (.tmp 37) (.const (.string ⟨#[]⟩))),
 .m 39 38, .gf 40 39 false 2 1, .gn 41 39 false 40, .gm 42 39 false 3, .g 43 39 false (.bin .sub false (.tmp 42) (.const (.int .i64 1))), .g 44 39 false (.indexAddr 1 (.tmp 41) (.tmp 43)), .gn 45 39 false 44, .gc 46 39
 false 74 45, .pt 47 39 46, .m 2 47], .ret]
def p3_ : LF := ⟨1, 48, c72, [.tmp 2]⟩
theorem D3_ : au_ prog Tryz.f72 p3_ := ah_
theorem my_ (x : ab_) (hx : ab_.sz x ≤ 1048576) (h : List Row) : aa_ prog 72 [.agg (ab_.cells x)] h (.val (.bool (cH_ x))) := by
 refine aj_ mixed Tryz.func72 D3_ rfl rfl ?_ h
 have h1 := ab_.sz_Name hx
 have h2 := aA_ (ab_.sz_Subs hx)
 by_cases k5 : x.Kind = 5
 case neg =>
  have hN : cH_ x = (bY_ x.Name && bm_ x.Subs) := by rw [cH_, if_neg k5]
  simp (disch := omega) only [p3_, c72, ab_.cells, go_sem, reduceEqDiff, Nat.reduceAdd, ↓reduceIte]
  repeat' (first
   | exact af_ _ _
   | (refine ae_ ?_; rw [hN]; simp only [*, Bool.true_and, Bool.false_and]; done)
   | simp (disch := omega) only [k5, go_sem, reduceEqDiff, ↓reduceIte]
   | (refine aa_.call (bS_ _ h1 _) ?_)
   | (refine aa_.q (bS_ _ h1 _) ?_)
   | (refine aa_.call (bU_ _ h2 _) ?_)
   | (refine aa_.q (bU_ _ h2 _) ?_)
   | ((first | (apply a1_; assumption) | (apply a0_; assumption) | (apply be_; assumption) | (apply bd_; assumption)); intro hb; try simp only [hb])
   | ((first | (apply aM_; assumption) | (apply aN_; assumption) | (apply aX_; assumption) | (apply aY_; assumption)); intro hb; try simp only [hb])
   | ((first | apply aG_ | apply aJ_ | apply ao_ | apply ar_) <;> intro hb <;> (try simp only [hb]) <;> (first | have hp := a8_ hb | have hp := a6_ hb | have hp := a7_ hb | have hp := a5_ hb | skip)))
 have hN : cH_ x = (bY_ x.Name && (decide (0 < (x.Subs.length : Int)) && decide ((x.Subs.length : Int) ≤ 4) && bm_ (b2_ x.Subs) && (decide (dT_ x.Subs = txt []) || b0_ (dT_ x.Subs)))) := by rw [cH_, if_pos k5]
 by_cases h0 : x.Subs.length = 0
 ·have h0' : ((0 : Int) < x.Subs.length) = False := eq_false (by omega)
  have h0'' : ((x.Subs.length : Int) < 1) = True := eq_true (by omega)
  simp (disch := omega) only [p3_, c72, ab_.cells, k5, go_sem, reduceEqDiff, Nat.reduceAdd, ↓reduceIte]
  repeat' (first
   | exact af_ _ _
   | (refine ae_ ?_; rw [hN]; simp [h0]; done)
   | (refine ae_ ?_; rw [hN]; simp only [*, Bool.and_true, Bool.true_and, Bool.and_false, Bool.false_and, Bool.or_true, Bool.true_or, Bool.or_false, Bool.false_or, Bool.not_true, Bool.not_false, decide_true, decide_false, Bool.and_self, Bool.or_self]; done)
   | simp (disch := omega) only [h0'', go_sem, reduceEqDiff, ↓reduceIte]
   | (refine aa_.call (bS_ _ h1 _) ?_)
   | (refine aa_.q (bS_ _ h1 _) ?_)
   | ((first | (apply a1_; assumption) | (apply a0_; assumption) | (apply be_; assumption) | (apply bd_; assumption)); intro hb; try simp only [hb])
   | ((first | (apply aM_; assumption) | (apply aN_; assumption) | (apply aX_; assumption) | (apply aY_; assumption)); intro hb; try simp only [hb])
   | ((first | apply aG_ | apply aJ_ | apply ao_ | apply ar_) <;> intro hb <;> (try simp only [hb]) <;> (first | have hp := a8_ hb | have hp := a6_ hb | have hp := a7_ hb | have hp := a5_ hb | skip)))
 ·have h0' : ((0 : Int) < x.Subs.length) = True := eq_true (by omega)
  have h0'' : ((x.Subs.length : Int) < 1) = False := eq_false (by omega)
  have hlt : x.Subs.length - 1 < x.Subs.length := by omega
  have hfr : x.Subs.take (x.Subs.length - 1) = b2_ x.Subs := rfl
  have hfl : (b2_ x.Subs).length ≤ 1048576 := by rw [b2_, length_take]; omega
  have hw : IntKind.i64.wrap ((x.Subs.length : Int) - 1) = ((x.Subs.length - 1 : Nat) : Int) := by rw [aq_ (n := (x.Subs.length : Int) - 1) (by omega) (by omega)]; omega
  by_cases q4 : (x.Subs.length : Int) ≤ 4
  ·have q4' : ((4 : Int) < x.Subs.length) = False := eq_false (by omega)
   simp (disch := omega) only [p3_, c72, ab_.cells, k5, go_sem, reduceEqDiff, Nat.reduceAdd, ↓reduceIte]
   repeat' (first
    | exact af_ _ _
    | (refine ae_ ?_; rw [hN]; simp only [*, Bool.true_and, Bool.and_false, Bool.false_and, Bool.true_or, Bool.false_or, decide_true, Bool.and_self]; done)
    | simp (disch := omega) only [h0'', q4', hw, fj_, hfr, gg_, am_, go_sem, reduceEqDiff, ↓reduceIte]
    | (refine aa_.call (bS_ _ h1 _) ?_)
    | (refine aa_.q (bS_ _ h1 _) ?_)
    | (refine aa_.call (bU_ _ hfl _) ?_)
    | (refine aa_.q (bU_ _ hfl _) ?_)
    | (refine aa_.call (dZ_ _ _) ?_)
    | (refine aa_.q (dZ_ _ _) ?_)
    | ((first | (apply a1_; assumption) | (apply a0_; assumption) | (apply be_; assumption) | (apply bd_; assumption)); intro hb; try simp only [hb])
    | ((first | (apply aM_; assumption) | (apply aN_; assumption) | (apply aX_; assumption) | (apply aY_; assumption)); intro hb; try simp only [hb])
    | ((first | apply aG_ | apply aJ_ | apply ao_ | apply ar_) <;> intro hb <;> (try simp only [hb]) <;> (first | have hp := a8_ hb | have hp := a6_ hb | have hp := a7_ hb | have hp := a5_ hb | skip)))
  ·have q4' : ((4 : Int) < x.Subs.length) = True := eq_true (by omega)
   simp (disch := omega) only [p3_, c72, ab_.cells, k5, go_sem, reduceEqDiff, Nat.reduceAdd, ↓reduceIte]
   repeat' (first
    | exact af_ _ _
    | (refine ae_ ?_; rw [hN]; simp only [*, Bool.and_false, Bool.false_and, decide_true, decide_false, Bool.and_self]; done)
    | simp (disch := omega) only [h0'', q4', go_sem, reduceEqDiff, ↓reduceIte]
    | (refine aa_.call (bS_ _ h1 _) ?_)
    | (refine aa_.q (bS_ _ h1 _) ?_)
    | ((first | (apply a1_; assumption) | (apply a0_; assumption) | (apply be_; assumption) | (apply bd_; assumption)); intro hb; try simp only [hb])
    | ((first | (apply aM_; assumption) | (apply aN_; assumption) | (apply aX_; assumption) | (apply aY_; assumption)); intro hb; try simp only [hb])
    | ((first | apply aG_ | apply aJ_ | apply ao_ | apply ar_) <;> intro hb <;> (try simp only [hb]) <;> (first | have hp := a8_ hb | have hp := a6_ hb | have hp := a7_ hb | have hp := a5_ hb | skip)))
theorem oF_ (s : ByteArray) : (!fs_ s) = decide ((s.size : Int) ≤ 64) := by
 rw [fs_, Bool.eq_iff_iff]; simp only [Bool.not_eq_true', decide_eq_false_iff_not, decide_eq_true_eq]; omega
theorem sN_ (xs : List ByteArray) (x : ByteArray) : bm_ (xs ++ [x]) = (decide ((xs.length : Int) + 1 ≤ 4) && (xs.all b0_ && b0_ x)) := by
 simp [bm_]
theorem sa_ (xs : List ByteArray) (h : 0 < xs.length) : xs = b2_ xs ++ [dT_ xs] := by
 have hlt : xs.length - 1 < xs.length := by omega
 rw [← gg_ xs hlt, b2_]
 conv => lhs; rw [← take_append_drop (xs.length - 1) xs]
 congr 1
 rw [drop_eq_getElem_cons hlt, drop_eq_nil_of_le (by omega)]
theorem so_ (xs : List ByteArray) : (decide ((xs.length : Int) ≤ 4) && gv_ xs) = (decide (0 < (xs.length : Int)) && decide ((xs.length : Int) ≤ 4) && bm_ (b2_ xs) && (decide (dT_ xs = txt []) || b0_ (dT_ xs))) := by
 by_cases h0 : 0 < xs.length
 case neg =>
  have : xs.length = 0 := by omega
  simp [gv_, this]
 have hs : bm_ xs = (decide ((xs.length : Int) ≤ 4) && ((b2_ xs).all b0_ && b0_ (dT_ xs))) := by
  have e := sa_ xs h0
  have hl : ((b2_ xs).length : Int) + 1 = xs.length := by rw [b2_, length_take]; omega
  conv => lhs; rw [e]
  rw [sN_, hl]
 have hf : bm_ (b2_ xs) = (decide (((b2_ xs).length : Int) ≤ 4) && (b2_ xs).all b0_) := rfl
 have hl : ((b2_ xs).length : Int) = xs.length - 1 := by rw [b2_, length_take]; omega
 rw [gv_, hs, hf, hl]
 have h1 : decide (0 < (xs.length : Int)) = true := by simp; omega
 rw [h1]
 by_cases h4 : (xs.length : Int) ≤ 4
 ·have h5 : decide ((xs.length : Int) - 1 ≤ 4) = true := by simp; omega
  have h4' : decide ((xs.length : Int) ≤ 4) = true := by simpa using h4
  rw [h4', h5]
  cases (b2_ xs).all b0_ <;> cases b0_ (dT_ xs) <;> cases decide (dT_ xs = txt []) <;> rfl
 ·have h4' : decide ((xs.length : Int) ≤ 4) = false := by simpa using h4
  rw [h4']; rfl
theorem rm_ {x : ab_} (k5 : ¬ x.Kind = 5) : cH_ x = (bY_ x.Name && bm_ x.Subs) := by rw [cH_, if_neg k5]
theorem sj_ {x : ab_} (k5 : ¬ x.Kind = 5) : bD_ x = (cH_ x && bo_ x) := by
 rw [bD_, if_neg k5, rm_ k5]; cases bY_ x.Name <;> cases bo_ x <;> cases bm_ x.Subs <;> rfl
theorem sx_ {x : ab_} (k5 : x.Kind = 5) : bD_ x = (cH_ x && bo_ x) := by
 rw [bD_, if_pos k5, cH_, if_pos k5, so_]
 generalize (decide (0 < (x.Subs.length : Int)) && decide ((x.Subs.length : Int) ≤ 4) && bm_ (b2_ x.Subs) && (decide (dT_ x.Subs = txt []) || b0_ (dT_ x.Subs))) = q
 cases bY_ x.Name <;> cases bo_ x <;> cases q <;> rfl
theorem d4_ (x : ab_) : bD_ x = (cH_ x && bo_ x) := by
 by_cases k5 : x.Kind = 5
 ·exact sx_ k5
 ·exact sj_ k5
theorem Eq_ {x : ab_} (k : x.Kind = 1) : bo_ x = (decide ((x.Value.size : Int) ≤ 64) && ex_ x.N && (decide (x.N.tmod 10 = 1) || decide (x.Value = txt []))) := by
 rw [bo_, if_pos k, oF_]; rw [Bool.and_comm (ex_ x.N)]
theorem Ev_ {x : ab_} (k : x.Kind = 4) : bo_ x = (ex_ x.N && decide (x.Value = txt [])) := by
 rw [bo_, if_neg (by omega), if_pos k]
theorem Ew_ {x : ab_} (k : x.Kind = 5) : bo_ x = ((decide (x.Value = txt []) || b0_ x.Value) && (decide (x.N = 1) || decide (x.N = -1))) := by
 rw [bo_, if_neg (by omega), if_neg (by omega), if_pos k, Bool.and_comm]
theorem oe_ (s : ByteArray) : bm_ (dW_ s).1 = true := by
 rw [dW_]
 cases h : gb_ dV_ (bs s) with
 | none => rfl
 | some xs => simp only; rw [el_]; exact ((ix_ kU_ (bs s) xs).1 h).1
theorem CK_ {x : ab_} (k : x.Kind = 6) : bo_ x = if x.N = 0 then decide (x.Value = txt []) else decide (x.N = 1) && (dW_ x.Value).2 := by
 rw [bo_, if_neg (by omega), if_neg (by omega), if_neg (by omega), if_pos k]
 by_cases h : x.N = 0
 ·rw [if_pos h, h]; simp
 ·rw [if_neg h]; simp [h]
theorem Et_ {x : ab_} (k : x.Kind = 2) : bo_ x = (decide ((x.Value.size : Int) ≤ 64) && decide (x.N = 0)) := by
 rw [bo_, if_neg (by omega), if_neg (by omega), if_neg (by omega), if_neg (by omega), if_pos k, oF_, Bool.and_comm]
theorem Ey_ {x : ab_} (k : x.Kind = 3) : bo_ x = (decide (x.Value = txt []) && decide (x.N = 0)) := by
 rw [bo_, if_neg (by omega), if_neg (by omega), if_neg (by omega), if_neg (by omega), if_neg (by omega)]
 simp [k, Bool.and_comm]
theorem ED_ {x : ab_} (k1 : ¬ x.Kind = 1) (k4 : ¬ x.Kind = 4) (k5 : ¬ x.Kind = 5) (k6 : ¬ x.Kind = 6) (k2 : ¬ x.Kind = 2) (k3 : ¬ x.Kind = 3) : bo_ x = false := by
 simp [bo_, *]
theorem uH_ (s : ByteArray) : (dW_ s).1.length ≤ 1048576 := by
 have := (eR_ (oe_ s)).1; omega
def c31 : LC :=
 .q [.o [.bx 1 44 0, .f 2], .q [.o [.ld 5 5 1, .c1 6 33 5, .nt 7 6, .m 8 7, .gl 9 8 true 5 1, .gc 10 8 true 36 9, .gu 11 8 true 10, .pf 12 8 11, .m 13 12, .gl 14 13 false 5 1, .gc 15 13 false 72 14, .gu 16 13 false 15,
 .pt 17 13 16], .k 17 (.q [.o [.f 2], .ret]) .skip], .q [.o [.fa 18 0 1, .ln 19 18], .block 0 (.q [.o [.bk 21 .eql false 19 1, .m 20 21], .k 20 (.q [.o [.fa 22 3 1, .ln 23 22, .s 24 (.lenStr (.tmp 23)), .bk 25 .leq false
 24 64, .m 26 25, .gf 27 26 true 4 1, .gn 28 26 true 27, .gc 29 26 true 73 28, .pf 30 26 29, .m 31 30, .gf 32 31 true 4 1, .gn 33 31 true 32, .g 34 31 true (.bin .rem false (.tmp 33) (.const (.int .i64 10))), .g 35 31
 true (.bin .eql false (.tmp 34) (.const (.int .i64 1))), .gm 36 31 true 35, .gf 37 36 false 3 1, .gn 38 36 false 37, .g 39 36 false (.bin .eql false (.tmp 38) (.const (.string ⟨#[]⟩))), .g 40 31 true (.pick (.tmp 36)
 (.const (.bool true)) (.tmp 39)), .pf 41 31 40, .m 2 41], .ret]) (.q [.o [.bk 43 .eql false 19 4, .m 42 43], .k 42 (.q [.o [.fa 44 4 1, .ln 45 44, .c1 46 73 45, .m 47 46, .gf 48 47 true 3 1, .gn 49 47 true 48, .g 50 47
 true (.bin .eql false (.tmp 49) (.const (.string ⟨#[]⟩))), .pf 51 47 50, .m 2 51], .ret]) (.q [.o [.bk 53 .eql false 19 5, .m 52 53], .k 52 (.q [.o [.fa 54 3 1, .ln 55 54, .s 56 (.bin .eql false (.tmp 55) (.const
 (.string ⟨#[]⟩))), .m 57 56, .gf 58 57 false 3 1, .gn 59 57 false 58, .gc 60 57 false 74 59, .pt 61 57 60, .m 62 61, .gf 63 62 true 4 1, .gn 64 62 true 63, .g 65 62 true (.bin .eql false (.tmp 64) (.const (.int .i64
 1))), .gm 66 62 true 65, .gf 67 66 false 4 1, .gn 68 66 false 67, .g 69 66 false (.bin .eql false (.tmp 68) (.const (.int .i64 (-1)))), .g 70 62 true (.pick (.tmp 66) (.const (.bool true)) (.tmp 69)), .pf 71 62 70, .m 2
 71], .ret]) (.q [.o [.bk 73 .eql false 19 6, .m 72 73], .k 72 (.q [.q [.o [.fa 74 4 1, .ln 75 74, .bk 76 .eql false 75 0], .k 76 (.q [.o [.fa 77 3 1, .ln 78 77, .s 79 (.bin .eql false (.tmp 78) (.const (.string ⟨#[]⟩))),
 .m 2 79], .ret]) .skip], .o [.fa 81 3 1, .ln 82 81, .c1 83 75 82, .m 80 83, .ex 84 80 0, .ex 85 80 1, .m 3 84, .m 4 85], .o [.fa 86 4 1, .ln 87 86, .bk 88 .eql false 87 1, .m 89 88, .gm 90 89 true 4, .pf 91 89 90, .m 92
 91, .gm 93 92 true 3, .gc 94 92 true 76 93, .pf 95 92 94, .m 2 95], .ret]) (.q [.o [.bk 97 .eql false 19 2, .m 96 97], .k 96 (.q [.o [.fa 98 3 1, .ln 99 98, .s 100 (.lenStr (.tmp 99)), .bk 101 .leq false 100 64, .m 102
 101, .gf 103 102 true 4 1, .gn 104 102 true 103, .g 105 102 true (.bin .eql false (.tmp 104) (.const (.int .i64 0))), .pf 106 102 105, .m 2 106], .ret]) .skip])])])])])], .o [.fa 107 3 1, .ln 108 107, .s 109 (.bin .eql
 false (.tmp 108) (.const (.string ⟨#[]⟩))), .m 110 109, .gf 111 110 true 4 1, .gn 112 110 true 111, .g 113 110 true (.bin .eql false (.tmp 112) (.const (.int .i64 0))), .pf 114 110 113, .m 2 114], .ret]
def jZ_ : LF := ⟨1, 115, c31, [.tmp 2]⟩
theorem D9_ : au_ Tryz.prog Tryz.f31 jZ_ := ah_
theorem fB_ (x : ab_) (hx : ab_.sz x ≤ 1048576) (h : List Row) : aa_ Tryz.prog 31 [.agg (ab_.cells x)] h (.val (.bool (bD_ x))) := by
 refine aj_ mixed Tryz.func31 D9_ rfl rfl ?_ h
 have hv := ab_.sz_Value hx
 have hW := fun h => my_ x hx h
 have hRd := fun h => i6_ x h
 have hTn := fun h => iH_ x h
 have hq := uH_ x.Value
 have hqs := oe_ x.Value
 by_cases k1 : x.Kind = 1
 ·have r : bQ_ x = true := by simp [bQ_, k1]
  have hN : bD_ x = (cH_ x && (decide ((x.Value.size : Int) ≤ 64) && ex_ x.N && (decide (x.N.tmod 10 = 1) || decide (x.Value = txt [])))) := by rw [d4_, Eq_ k1]
  rw [r] at hRd
  simp only [ab_.cells, k1] at hW hRd hTn
  simp (disch := omega) only [jZ_, c31, ab_.cells, k1, go_sem, reduceEqDiff, Nat.reduceAdd, Int.reduceNeg, ↓reduceIte]
  repeat' (first
   | exact af_ _ _
   | (refine ae_ ?_; rw [hN]; simp only [*, Bool.true_and, Bool.and_false, Bool.false_and, Bool.true_or, Bool.false_or, decide_true, decide_false, Bool.and_self]; done)
   | simp (disch := omega) only [go_sem, reduceEqDiff, Nat.reduceAdd, Int.reduceNeg, ↓reduceIte]
   | (refine aa_.call (hRd _) ?_)
   | (refine aa_.q (hRd _) ?_)
   | (refine aa_.call (hTn _) ?_)
   | (refine aa_.q (hTn _) ?_)
   | (refine aa_.call (hW _) ?_)
   | (refine aa_.q (hW _) ?_)
   | (refine aa_.call (e6_ _ _) ?_)
   | (refine aa_.q (e6_ _ _) ?_)
   | ((first | (apply a1_; assumption) | (apply a0_; assumption) | (apply be_; assumption) | (apply bd_; assumption)); intro hb; try simp only [hb])
   | ((first | (apply aM_; assumption) | (apply aN_; assumption) | (apply aX_; assumption) | (apply aY_; assumption)); intro hb; try simp only [hb])
   | ((first | apply aG_ | apply aJ_ | apply ao_ | apply ar_) <;> intro hb <;> (try simp only [hb]) <;> (first | have hp := a8_ hb | have hp := a6_ hb | have hp := a7_ hb | have hp := a5_ hb | skip)))
 by_cases k4 : x.Kind = 4
 ·have r : bQ_ x = true := by simp [bQ_, k4]
  have hN : bD_ x = (cH_ x && (ex_ x.N && decide (x.Value = txt []))) := by rw [d4_, Ev_ k4]
  rw [r] at hRd
  simp only [ab_.cells, k4] at hW hRd hTn
  simp (disch := omega) only [jZ_, c31, ab_.cells, k4, go_sem, reduceEqDiff, Nat.reduceAdd, Int.reduceNeg, ↓reduceIte]
  repeat' (first
   | exact af_ _ _
   | (refine ae_ ?_; rw [hN]; simp only [*, Bool.true_and, Bool.and_false, Bool.false_and]; done)
   | simp (disch := omega) only [Int.reduceEq, go_sem, reduceEqDiff, Nat.reduceAdd, Int.reduceNeg, ↓reduceIte]
   | (refine aa_.call (hRd _) ?_)
   | (refine aa_.q (hRd _) ?_)
   | (refine aa_.call (hTn _) ?_)
   | (refine aa_.q (hTn _) ?_)
   | (refine aa_.call (hW _) ?_)
   | (refine aa_.q (hW _) ?_)
   | (refine aa_.call (e6_ _ _) ?_)
   | (refine aa_.q (e6_ _ _) ?_)
   | ((first | (apply a1_; assumption) | (apply a0_; assumption) | (apply be_; assumption) | (apply bd_; assumption)); intro hb; try simp only [hb])
   | ((first | (apply aM_; assumption) | (apply aN_; assumption) | (apply aX_; assumption) | (apply aY_; assumption)); intro hb; try simp only [hb])
   | ((first | apply aG_ | apply aJ_ | apply ao_ | apply ar_) <;> intro hb <;> (try simp only [hb]) <;> (first | have hp := a8_ hb | have hp := a6_ hb | have hp := a7_ hb | have hp := a5_ hb | skip)))
 by_cases k5 : x.Kind = 5
 ·have r : bQ_ x = true := by simp [bQ_, k5]
  have hN : bD_ x = (cH_ x && ((decide (x.Value = txt []) || b0_ x.Value) && (decide (x.N = 1) || decide (x.N = -1)))) := by rw [d4_, Ew_ k5]
  rw [r] at hRd
  simp only [ab_.cells, k5] at hW hRd hTn
  simp (disch := omega) only [jZ_, c31, ab_.cells, k5, go_sem, reduceEqDiff, Nat.reduceAdd, Int.reduceNeg, ↓reduceIte]
  repeat' (first
   | exact af_ _ _
   | (refine ae_ ?_; rw [hN]; simp only [*, Bool.true_and, Bool.and_false, Bool.false_and, Bool.or_true, Bool.true_or, Bool.false_or, Bool.and_self, Bool.or_self]; done)
   | simp (disch := omega) only [Int.reduceEq, go_sem, reduceEqDiff, Nat.reduceAdd, Int.reduceNeg, ↓reduceIte]
   | (refine aa_.call (hRd _) ?_)
   | (refine aa_.q (hRd _) ?_)
   | (refine aa_.call (hTn _) ?_)
   | (refine aa_.q (hTn _) ?_)
   | (refine aa_.call (hW _) ?_)
   | (refine aa_.q (hW _) ?_)
   | (refine aa_.call (dZ_ _ _) ?_)
   | (refine aa_.q (dZ_ _ _) ?_)
   | ((first | (apply a1_; assumption) | (apply a0_; assumption) | (apply be_; assumption) | (apply bd_; assumption)); intro hb; try simp only [hb])
   | ((first | (apply aM_; assumption) | (apply aN_; assumption) | (apply aX_; assumption) | (apply aY_; assumption)); intro hb; try simp only [hb])
   | ((first | apply aG_ | apply aJ_ | apply ao_ | apply ar_) <;> intro hb <;> (try simp only [hb]) <;> (first | have hp := a8_ hb | have hp := a6_ hb | have hp := a7_ hb | have hp := a5_ hb | skip)))
 by_cases k6 : x.Kind = 6
 ·have r : bQ_ x = true := by simp [bQ_, k6]
  rw [r] at hRd
  simp only [ab_.cells, k6] at hW hRd hTn
  by_cases hn0 : x.N = 0
  ·have hN : bD_ x = (cH_ x && decide (x.Value = txt [])) := by rw [d4_, CK_ k6, if_pos hn0]
   simp (disch := omega) only [jZ_, c31, ab_.cells, k6, go_sem, reduceEqDiff, Nat.reduceAdd, Int.reduceNeg, ↓reduceIte]
   simp only [hn0] at hW hRd hTn
   repeat' (first
    | exact af_ _ _
    | (refine ae_ ?_; rw [hN]; simp only [*, Bool.true_and, Bool.false_and]; done)
    | simp (disch := omega) only [Int.reduceEq, hn0, go_sem, reduceEqDiff, Nat.reduceAdd, Int.reduceNeg, ↓reduceIte]
    | (refine aa_.call (hRd _) ?_)
    | (refine aa_.q (hRd _) ?_)
    | (refine aa_.call (hTn _) ?_)
    | (refine aa_.q (hTn _) ?_)
    | (refine aa_.call (hW _) ?_)
    | (refine aa_.q (hW _) ?_)
    | ((first | (apply a1_; assumption) | (apply a0_; assumption) | (apply be_; assumption) | (apply bd_; assumption)); intro hb; try simp only [hb])
    | ((first | (apply aM_; assumption) | (apply aN_; assumption) | (apply aX_; assumption) | (apply aY_; assumption)); intro hb; try simp only [hb])
    | ((first | apply aG_ | apply aJ_ | apply ao_ | apply ar_) <;> intro hb <;> (try simp only [hb]) <;> (first | have hp := a8_ hb | have hp := a6_ hb | have hp := a7_ hb | have hp := a5_ hb | skip)))
  ·have hN : bD_ x = (cH_ x && (decide (x.N = 1) && (dW_ x.Value).2)) := by rw [d4_, CK_ k6, if_neg hn0]
   simp (disch := omega) only [jZ_, c31, ab_.cells, k6, go_sem, reduceEqDiff, Nat.reduceAdd, Int.reduceNeg, ↓reduceIte]
   repeat' (first
    | exact af_ _ _
    | (refine ae_ ?_; rw [hN]; simp only [*, Bool.and_false, Bool.false_and, Bool.and_self]; done)
    | simp (disch := omega) only [Int.reduceEq, hn0, go_sem, reduceEqDiff, Nat.reduceAdd, Int.reduceNeg, ↓reduceIte]
    | (refine aa_.call (hRd _) ?_)
    | (refine aa_.q (hRd _) ?_)
    | (refine aa_.call (hTn _) ?_)
    | (refine aa_.q (hTn _) ?_)
    | (refine aa_.call (hW _) ?_)
    | (refine aa_.q (hW _) ?_)
    | (refine aa_.call (iG_ _ hv _) ?_)
    | (refine aa_.q (iG_ _ hv _) ?_)
    | (refine aa_.call (bU_ _ hq _) ?_)
    | (refine aa_.q (bU_ _ hq _) ?_)
    | ((first | (apply a1_; assumption) | (apply a0_; assumption) | (apply be_; assumption) | (apply bd_; assumption)); intro hb; try simp only [hb])
    | ((first | (apply aM_; assumption) | (apply aN_; assumption) | (apply aX_; assumption) | (apply aY_; assumption)); intro hb; try simp only [hb])
    | ((first | apply aG_ | apply aJ_ | apply ao_ | apply ar_) <;> intro hb <;> (try simp only [hb]) <;> (first | have hp := a8_ hb | have hp := a6_ hb | have hp := a7_ hb | have hp := a5_ hb | skip)))
 by_cases k2 : x.Kind = 2
 ·have r : bQ_ x = false := by simp [bQ_, k2]
  have r2 : bJ_ x = true := by simp [bJ_, k2]
  have hN : bD_ x = (cH_ x && (decide ((x.Value.size : Int) ≤ 64) && decide (x.N = 0))) := by rw [d4_, Et_ k2]
  rw [r] at hRd
  rw [r2] at hTn
  simp only [ab_.cells, k2] at hW hRd hTn
  simp (disch := omega) only [jZ_, c31, ab_.cells, k2, go_sem, reduceEqDiff, Nat.reduceAdd, Int.reduceNeg, ↓reduceIte]
  repeat' (first
   | exact af_ _ _
   | (refine ae_ ?_; rw [hN]; simp only [*, Bool.true_and, Bool.and_false, Bool.false_and, decide_true, decide_false]; done)
   | simp (disch := omega) only [Int.reduceEq, go_sem, reduceEqDiff, Nat.reduceAdd, Int.reduceNeg, ↓reduceIte]
   | (refine aa_.call (hRd _) ?_)
   | (refine aa_.q (hRd _) ?_)
   | (refine aa_.call (hTn _) ?_)
   | (refine aa_.q (hTn _) ?_)
   | (refine aa_.call (hW _) ?_)
   | (refine aa_.q (hW _) ?_)
   | ((first | (apply a1_; assumption) | (apply a0_; assumption) | (apply be_; assumption) | (apply bd_; assumption)); intro hb; try simp only [hb])
   | ((first | (apply aM_; assumption) | (apply aN_; assumption) | (apply aX_; assumption) | (apply aY_; assumption)); intro hb; try simp only [hb])
   | ((first | apply aG_ | apply aJ_ | apply ao_ | apply ar_) <;> intro hb <;> (try simp only [hb]) <;> (first | have hp := a8_ hb | have hp := a6_ hb | have hp := a7_ hb | have hp := a5_ hb | skip)))
 by_cases k3 : x.Kind = 3
 ·have r : bQ_ x = false := by simp [bQ_, k3]
  have r2 : bJ_ x = true := by simp [bJ_, k3]
  have hN : bD_ x = (cH_ x && (decide (x.Value = txt []) && decide (x.N = 0))) := by rw [d4_, Ey_ k3]
  rw [r] at hRd
  rw [r2] at hTn
  simp only [ab_.cells, k3] at hW hRd hTn
  simp (disch := omega) only [jZ_, c31, ab_.cells, k3, go_sem, reduceEqDiff, Nat.reduceAdd, Int.reduceNeg, ↓reduceIte]
  repeat' (first
   | exact af_ _ _
   | (refine ae_ ?_; rw [hN]; simp only [*, Bool.true_and, Bool.and_false, Bool.false_and]; done)
   | simp (disch := omega) only [Int.reduceEq, go_sem, reduceEqDiff, Nat.reduceAdd, Int.reduceNeg, ↓reduceIte]
   | (refine aa_.call (hRd _) ?_)
   | (refine aa_.q (hRd _) ?_)
   | (refine aa_.call (hTn _) ?_)
   | (refine aa_.q (hTn _) ?_)
   | (refine aa_.call (hW _) ?_)
   | (refine aa_.q (hW _) ?_)
   | ((first | (apply a1_; assumption) | (apply a0_; assumption) | (apply be_; assumption) | (apply bd_; assumption)); intro hb; try simp only [hb])
   | ((first | (apply aM_; assumption) | (apply aN_; assumption) | (apply aX_; assumption) | (apply aY_; assumption)); intro hb; try simp only [hb])
   | ((first | apply aG_ | apply aJ_ | apply ao_ | apply ar_) <;> intro hb <;> (try simp only [hb]) <;> (first | have hp := a8_ hb | have hp := a6_ hb | have hp := a7_ hb | have hp := a5_ hb | skip)))
 have r : bQ_ x = false := by simp [bQ_, *]
 have r2 : bJ_ x = false := by simp [bJ_, *]
 have hN : bD_ x = false := by rw [d4_, ED_ k1 k4 k5 k6 k2 k3]; simp
 rw [r] at hRd
 rw [r2] at hTn
 simp only [ab_.cells] at hW hRd hTn
 simp (disch := omega) only [jZ_, c31, ab_.cells, go_sem, reduceEqDiff, Nat.reduceAdd, Int.reduceNeg, ↓reduceIte]
 repeat' (first
  | exact af_ _ _
  | (refine ae_ ?_; rw [hN]; done)
  | simp (disch := omega) only [go_sem, reduceEqDiff, Nat.reduceAdd, Int.reduceNeg, ↓reduceIte]
  | (refine aa_.call (hRd _) ?_)
  | (refine aa_.q (hRd _) ?_)
  | (refine aa_.call (hTn _) ?_)
  | (refine aa_.q (hTn _) ?_)
  | (refine aa_.call (hW _) ?_)
  | (refine aa_.q (hW _) ?_)
  | ((first | (apply a1_; assumption) | (apply a0_; assumption) | (apply be_; assumption) | (apply bd_; assumption)); intro hb; try simp only [hb])
  | ((first | (apply aM_; assumption) | (apply aN_; assumption) | (apply aX_; assumption) | (apply aY_; assumption)); intro hb; try simp only [hb])
  | ((first | apply aG_ | apply aJ_ | apply ao_ | apply ar_) <;> intro hb <;> (try simp only [hb]) <;> (first | have hp := a8_ hb | have hp := a6_ hb | have hp := a7_ hb | have hp := a5_ hb | skip)))
end Go.Proofs.YtfkddbkjmkceaaaGreatDoor
