/-
 Contracts of functions of this program, over abstract values. Conditions: as each theorem says.
-/
import Derived.Test.YtfplhbjggecnpaaGreatDoorFnKA
import Derived.Test.YtfplhbjggecnpaaGreatDoorAwBits
import Derived.Test.YtfplhbjggecnpaaGreatDoorPlKey
import Derived.Test.YtfplhbjggecnpaaGreatDoorAwC
namespace Go.Proofs.YtfplhbjggecnpaaGreatDoor
open List
open Go.AW
set_option linter.unusedVariables false
set_option linter.unusedSimpArgs false
set_option maxRecDepth 4000
abbrev l8_ (b : Nat) : AV := .val (.pointer (some ⟨b, 0, none⟩))
theorem ms_ {b : Nat} {l : List UInt8} {c : UInt8} {K : AV → Bd → Prop} (hlen : l.length + 1 ≤ 140737488355328) (hk : K (.val .nilIface) (some (b, l ++ [c]))) : gu_ Tryz.prog 179 5 216 [l8_ b, .val (.int .u8 c.toNat)] (some (b, l)) K :=
 kx_ (vals := [.int .u8 c.toNat]) (r := .nilIface) (new := [c]) (fun B w h hB => (Any.Builder_WriteByte_k Tryz.lays167 Tryz.Builder_Extra_167 B b (Lib.byteCells l) c.toNat w h (by rw [Lib.byteCells_length]; exact hlen) hB).mono (by
  rintro en w' ⟨rfl, h1, h2, _⟩
  refine ⟨rfl, .inr ?_, h2⟩
  have e : Lib.byteCells (l ++ [c]) = Lib.byteCells l ++ [.int .u8 c.toNat] := by simp [Lib.byteCells]
  rw [e]; exact h1)) hk
theorem Cu_ {b : Nat} {l s : List UInt8} {K : AV → Bd → Prop} (hlen : l.length + s.length ≤ 140737488355328) (hk : ∀ r : Value, K (.val r) (some (b, l ++ s))) : gu_ Tryz.prog 179 5 217 [l8_ b, .val (.string (txt s))] (some (b, l)) K :=
 kx_ (vals := [.string (txt s)]) (r := .tuple #[.int .i64 (txt s).size, .nilIface]) (new := s) (fun B w h hB => (Any.Builder_WriteString_k Tryz.lays166 Tryz.Builder_Extra_166 B b (Lib.byteCells l) (txt s) w h (by rw [Lib.byteCells_length, cb_]; exact hlen) hB).mono (by
  rintro en w' ⟨rfl, h1, h2, _⟩
  refine ⟨rfl, .inr ?_, h2⟩
  have e : Lib.byteCells (l ++ s) = Lib.byteCells l ++ Lib.strCells (txt s) := by simp [Lib.byteCells, Lib.strCells, txt]
  rw [e]; exact h1)) (hk _)
theorem xZ_ {b : Nat} {l : List UInt8} {K : AV → Bd → Prop} (hk : K (.val (.string (txt l))) (some (b, l))) : gu_ Tryz.prog 179 5 191 [l8_ b] (some (b, l)) K := by
 refine kx_ (vals := []) (r := .string (txt l)) (new := []) (fun B w h hB => (Any.Builder_String_any_k Tryz.lays169 Tryz.Builder_Extra_169 B b l w h hB).mono (by
  rintro en w' ⟨rfl, h1, h2, _⟩
  refine ⟨rfl, ?_, h2⟩
  rw [append_nil]; exact h1)) (by rw [append_nil]; exact hk)
theorem ji_ (s : List UInt8) (hs : s.length ≤ 1048576) (h : List Row) : aa_ Tryz.prog 218 [.val (.string (txt s)), .val (.string (txt [0])), .val (.string (txt [0, 255]))] h (.val (.string (txt (esc s)))) := by
 refine qB_ (vals := [.string (txt s), .string (txt [0]), .string (txt [0, 255])]) (fun w hM => ?_) h
 obtain ⟨m, hm⟩ := hM (Tryz.lays155_ren.g 1) (by kernel_rfl)
 have hc : Lib.countB (txt s) (txt [0]) ≤ s.length := by
  show Lib.count (txt s).data.toList (txt [0]).data.toList ≤ _
  rw [cd_, cd_, Lib.count_one]; exact count_le_length
 have := Any.strings_ReplaceAll Tryz.lays155 Tryz.Builder_Extra_155 (txt s) (txt [0]) (txt [0, 255]) m w (by rw [cb_]; omega) hm (by rw [cb_]; decide) (by rw [cb_, cb_]; simp only [lc_, ln_]; omega)
 rw [cd_, cd_, cd_, nA_] at this
 exact this
theorem yb_ (n k : Nat) (h : k < (be8 n).length) : (be8 n)[k] = do_ n (7 - k) := by
 rw [d8_] at h
 rcases (by omega : k = 0 ∨ k = 1 ∨ k = 2 ∨ k = 3 ∨ k = 4 ∨ k = 5 ∨ k = 6 ∨ k = 7) with e | e | e | e | e | e | e | e <;> subst e <;> rfl
theorem p5_ (n k : Nat) (h : k < 8) : (be8 n).take (k + 1) = (be8 n).take k ++ [do_ n (7 - k)] := by
 rw [take_succ_eq_append_getElem (by rw [d8_]; exact h), yb_]
theorem rw_ (n k : Nat) (h : k = 8) : (be8 n).take k = be8 n := by subst h; rfl
theorem AD_ (n k : Nat) (h : k < 8) : IntKind.u8.wrap ((n : Int).fdiv (2 ^ min (56 - 8 * (k : Int)).toNat 64)) = ((do_ n (7 - k)).toNat : Int) := by
 have e : (56 - 8 * (k : Int)).toNat = (8 * ((7 - k : Nat) : Int)).toNat := by omega
 rw [e, o7_ _ _ (by omega), mx_]
def Cr_ : LC :=
 .seq (.seq (.ops [.m 6 1, .c1 7 203 6]) (.cond (.tmp 7) (.seq (.ops [.m 8 1, .c1 9 205 8, .bk 10 .add false 9 1000000000000000000, .s 11 (.convInt .u64 (.tmp 10)), .m 4 11]) (.seq (.ops [.m 12 0, .s 13 (.call 216 [.tmp
 12, .const (.int .u8 1)])]) (.seq (.seq (.ops [.ki 5 56]) (.block 0 (.loop (.seq (.seq (.ops [.m 14 5, .bk 15 .geq false 14 0]) (.cond (.tmp 15) .skip (.exit 0))) (.seq (.block 1 (.ops [.m 18 0, .m 19 4, .m 20 5, .bb 21
 .shr false 19 20, .s 22 (.convInt .u8 (.tmp 21)), .c2 23 216 18 22])) (.ops [.m 16 5, .bk 17 .sub false 16 8, .m 5 17])))))) .ret))) .skip)) (.seq (.ops [.m 24 0, .s 25 (.call 216 [.tmp 24, .const (.int .u8 2)])]) (.seq
 (.ops [.m 26 0, .m 27 1, .s 28 (.call 218 [.tmp 27, .const (.string ⟨#[0]⟩), .const (.string ⟨#[0, 255]⟩)]), .c2 29 217 26 28]) (.ops [.m 30 0, .s 31 (.call 217 [.tmp 30, .const (.string ⟨#[0, 0]⟩)])])))
def ws_ : LF := ⟨2, 32, Cr_, []⟩
theorem zn_ : at_ Tryz.prog Tryz.f190 ws_ := ai_
theorem oO_ {b : Nat} {l : List UInt8} {s : ByteArray} (hs : s.size ≤ 1048576) (hl : l.length ≤ 1000000000) {K : AV → Bd → Prop} (hk : K (.tup []) (some (b, l ++ cx_ (bs s)))) : gu_ Tryz.prog 179 5 190 [l8_ b, .val (.string s)] (some (b, l)) K := by
 refine lY_ (by decide) mixed Tryz.func190 zn_ rfl ?_
 simp (disch := omega) only [ws_, Cr_, go_sem, ↓reduceIte]
 refine aa_.b rfl (dL_ s hs _) ?_
 have hbl : (bs s).length = s.size := e5_ s
 by_cases q : b1_ (bs s) = true
 ·simp (disch := omega) only [q, go_sem, Nat.reduceEqDiff, ↓reduceIte]
  refine aa_.b rfl (er_ s hs _) ?_
  have hn := eG_ (bs s)
  have hq := ik_ (bs s)
  have hq2 := iw_ (bs s)
  have hkey : cx_ (bs s) = 1 :: be8 (di_ (bs s)) := by unfold cx_; rw [if_pos q]
  rw [hkey] at hk
  simp (disch := omega) only [go_sem, reduceCtorEq, ↓reduceIte, ar_, ← hq, pa_]
  refine ms_ (c := 1) (by omega) ?_
  simp (disch := omega) only [go_sem]
  refine l7_ (fun n t σ => ∃ k : Nat, t 0 = l8_ b ∧ t 4 = .val (.int .u64 (di_ (bs s))) ∧ t 5 = .val (.int .i64 (56 - 8 * k)) ∧ σ = some (b, (l ++ [1]) ++ (be8 (di_ (bs s))).take k) ∧ n = 8 - k ∧ k ≤ 8) 8 ?_ ?_
  ·exact ⟨0, rfl, rfl, rfl, by simp, rfl, by omega⟩
  ·rintro J hJ n t σ ⟨k, t0, t4, t5, rfl, rfl, hk8⟩
   by_cases h8 : k < 8
   ·have hlt : (0 : Int) ≤ 56 - 8 * k := by omega
    have hlen : ((be8 (di_ (bs s))).take k).length ≤ 8 := by rw [length_take, d8_]; omega
    simp (disch := omega) only [t0, t4, t5, hlt, nI_, AD_, go_sem, Nat.reduceEqDiff, reduceCtorEq, ↓reduceIte]
    refine ms_ (by simp only [la_, lc_]; omega) ?_
    simp (disch := omega) only [t5, ar_, go_sem, Nat.reduceEqDiff, ↓reduceIte]
    exact ⟨8 - (k + 1), by omega, hJ _ _ _ ⟨k + 1, by simp [upd, t0], by simp [upd, t4], by simp [upd]; omega, by rw [p5_ _ _ h8]; simp, rfl, by omega⟩⟩
   ·have hlt : ¬ (0 : Int) ≤ 56 - 8 * k := by omega
    simp (disch := omega) only [t5, hlt, go_sem, ↓reduceIte]
    rw [rw_ _ _ (by omega)]
    simpa using hk
 ·have q' : b1_ (bs s) = false := by simpa using q
  have hkey : cx_ (bs s) = 2 :: (esc (bs s) ++ [0, 0]) := by unfold cx_; rw [if_neg q]
  have he := jW_ (bs s)
  rw [hkey] at hk
  simp (disch := omega) only [q', go_sem, reduceCtorEq, ↓reduceIte]
  refine ms_ (c := 2) (by omega) ?_
  simp (disch := omega) only [go_sem, Nat.reduceEqDiff, reduceCtorEq, ↓reduceIte]
  refine aa_.b rfl (by
   have := ji_ (bs s) (by omega) []
   rw [eA_] at this
   exact this) ?_
  simp (disch := omega) only [go_sem, Nat.reduceEqDiff, ↓reduceIte]
  refine Cu_ (by simp only [la_, lc_, ln_]; omega) (fun r1 => ?_)
  simp (disch := omega) only [go_sem, reduceCtorEq, ↓reduceIte]
  refine Cu_ (by simp only [la_, lc_, ln_]; omega) (fun r2 => ?_)
  simp (disch := omega) only [go_sem]
  simpa using hk
def iZ_ (xs : List ByteArray) : List UInt8 := if bg_ xs = true then cU_ (bss xs) else []
theorem pB_ (xs ys : List (List UInt8)) : cU_ (xs ++ ys) = cU_ xs ++ cU_ ys := by simp [cU_]
theorem eF_ {xs : List ByteArray} (h : bg_ xs = true) : xs.length ≤ 4 ∧ ∀ x ∈ xs, 1 ≤ x.size ∧ x.size ≤ 24 := by
 simp only [bg_, Bool.and_eq_true, decide_eq_true_eq, all_eq_true, bQ_] at h
 exact ⟨by omega, fun x hx => by have := h.2 x hx; omega⟩
theorem jo_ : ∀ (xs : List ByteArray), (∀ x ∈ xs, x.size ≤ 24) → (cU_ (bss xs)).length ≤ 57 * xs.length
 | [], _ => by simp [cU_, bss]
 | x :: xs, h => by
  have h1 := kf_ (bs x)
  have h2 := jo_ xs (fun y hy => h y (mem_cons_of_mem _ hy))
  have h3 := h x mem_cons_self
  rw [e5_] at h1
  rw [bss, map_cons, nS_, la_, lc_]
  simp only [bss] at h2
  simp only [bs] at h1
  omega
def CH_ : LC :=
 .seq (.ops [.s 2 (.mov (.const (.string ⟨#[]⟩)))]) (.seq (.seq (.ops [.m 6 0, .c1 7 143 6, .nt 8 7]) (.cond (.tmp 8) (.seq (.ops [.s 2 (.mov (.const (.string ⟨#[]⟩)))]) .ret) .skip)) (.seq (.ops [.s 3 (.alloc 179 (.agg
 #[.pointer none, .slice none 0 0]))]) (.seq (.seq (.ops [.m 9 0, .ll 10 9, .ki 11 0]) (.block 0 (.loop (.seq (.ops [.bb 12 .lss false 11 10]) (.seq (.cond (.tmp 12) .skip (.exit 0)) (.seq (.block 1 (.seq (.ops [.ia 13 1
 9 11, .ln 14 13, .m 5 14]) (.ops [.m 15 5, .c2 16 190 3 15]))) (.ops [.bk 17 .add false 11 1, .m 11 17]))))))) (.seq (.ops [.c1 18 191 3, .m 2 18]) .ret))))
def xJ_ : LF := ⟨1, 19, CH_, [.tmp 2]⟩
theorem zM_ : at_ Tryz.prog Tryz.f153 xJ_ := ai_
theorem iz_ (xs : List ByteArray) (hx : xs.length ≤ 1048576) (h : List Row) : aa_ Tryz.prog 153 [.list 0 1 (xs.map am_)] h (.val (.string (txt (iZ_ xs)))) := by
 refine kd_ (T := 179) (e := 5) rfl rfl ?_ h
 refine lY_ (by decide) mixed Tryz.func153 zM_ rfl ?_
 simp (disch := omega) only [xJ_, CH_, go_sem, reduceCtorEq, ↓reduceIte]
 refine aa_.b rfl (cc_ xs hx _) ?_
 by_cases q : bg_ xs = true
 case neg =>
  have q' : bg_ xs = false := by simpa using q
  simp (disch := omega) only [q', go_sem, ↓reduceIte]
  rw [iZ_, if_neg q]
 obtain ⟨h4, hm⟩ := eF_ q
 have hz : pg_ = .agg #[.pointer none, .slice none 0 0] := rfl
 simp (disch := omega) only [q, ← hz, go_sem, reduceCtorEq, ↓reduceIte]
 refine fun b => ?_
 refine l7_ (fun n t σ => ∃ k : Nat, t 3 = l8_ b ∧ t 9 = .list 0 1 (xs.map am_) ∧ t 10 = .val (.int .i64 xs.length) ∧ t 11 = .val (.int .i64 k) ∧ σ = some (b, cU_ (bss (xs.take k))) ∧ n = xs.length - k ∧ k ≤ xs.length) xs.length ?_ ?_
 ·exact ⟨0, rfl, rfl, rfl, rfl, rfl, rfl, by omega⟩
 ·rintro J hJ n t σ ⟨k, t3, t9, t10, t11, rfl, rfl, hk⟩
  by_cases hlt : k < xs.length
  ·have hl1 := jo_ (xs.take k) (fun x hx' => (hm x (mem_of_mem_take hx')).2)
   have hl2 : (xs.take k).length ≤ 4 := by rw [length_take]; omega
   simp (disch := omega) only [t3, t9, t10, t11, hlt, go_sem, Nat.reduceEqDiff, ↓reduceIte]
   refine oO_ (by have := hm _ (getElem_mem hlt); omega) (by omega) ?_
   simp (disch := omega) only [t11, ar_, go_sem, Nat.reduceEqDiff, ↓reduceIte]
   refine ⟨xs.length - (k + 1), by omega, hJ _ _ _ ⟨k + 1, by simp [upd, t3], by simp [upd, t9], by simp [upd, t10], by simp [upd], ?_, rfl, by omega⟩⟩
   rw [take_succ_eq_append_getElem hlt, bss, bss, map_append, pB_]
   simp [cU_]
  ·simp (disch := omega) only [t3, t10, t11, hlt, go_sem, Nat.reduceEqDiff, ↓reduceIte]
   rw [take_of_length_le (by omega)]
   refine xZ_ ?_
   simp (disch := omega) only [go_sem, ↓reduceIte]
   rw [iZ_, if_pos q]
def kv_ : Option (List UInt8 × List UInt8) → AV
 | some (t, r) => .tup [.val (.string (txt t)), .val (.string (txt r)), .val (.bool true)]
 | none => .tup [.val (.string (txt [])), .val (.string (txt [])), .val (.bool false)]
def CB_ : LC :=
 .seq (.ops [.s 2 (.mov (.const (.string ⟨#[]⟩))), .s 3 (.mov (.const (.string ⟨#[]⟩))), .s 4 (.mov (.const (.bool false)))]) (.seq (.ops [.s 5 (.alloc 179 (.agg #[.pointer none, .slice none 0 0]))]) (.seq (.seq (.ops
 [.ki 6 0]) (.block 0 (.loop (.seq (.seq (.ops [.m 7 6, .bk 8 .add false 7 1, .m 9 0, .s 10 (.lenStr (.tmp 9)), .bb 11 .lss false 8 10]) (.cond (.tmp 11) .skip (.exit 0))) (.seq (.block 1 (.seq (.seq (.ops [.m 14 0, .m 15
 6, .s 16 (.indexStr (.tmp 14) (.tmp 15)), .s 17 (.bin .neq false (.tmp 16) (.const (.int .u8 0)))]) (.cond (.tmp 17) (.seq (.ops [.m 18 0, .m 19 6, .s 20 (.indexStr (.tmp 18) (.tmp 19)), .c2 21 216 5 20]) (.exit 1))
 .skip)) (.seq (.ops [.m 22 0, .m 23 6, .bk 24 .add false 23 1, .s 25 (.indexStr (.tmp 22) (.tmp 24))]) (.block 2 (.seq (.ops [.s 27 (.bin .eql false (.tmp 25) (.const (.int .u8 0))), .m 26 27]) (.cond (.tmp 26) (.seq
 (.dops [.c1 28 191 5, .m 29 0, .m 30 6, .bk 31 .add false 30 2, .s 32 (.sliceStr (.tmp 29) (some (.tmp 31)) none), .m 2 28, .m 3 32, .s 4 (.mov (.const (.bool true)))]) .ret) (.seq (.ops [.s 34 (.bin .eql false (.tmp 25)
 (.const (.int .u8 255))), .m 33 34]) (.cond (.tmp 33) (.seq (.ops [.s 35 (.call 216 [.tmp 5, .const (.int .u8 0)])]) (.ops [.m 36 6, .bk 37 .add false 36 1, .m 6 37])) (.seq (.ops [.s 2 (.mov (.const (.string ⟨#[]⟩))),
 .s 3 (.mov (.const (.string ⟨#[]⟩))), .s 4 (.mov (.const (.bool false)))]) .ret))))))))) (.ops [.m 12 6, .bk 13 .add false 12 1, .m 6 13])))))) (.seq (.ops [.s 2 (.mov (.const (.string ⟨#[]⟩))), .s 3 (.mov (.const
 (.string ⟨#[]⟩))), .s 4 (.mov (.const (.bool false)))]) .ret)))
def xE_ : LF := ⟨1, 38, CB_, [.tmp 2, .tmp 3, .tmp 4]⟩
theorem BN_ : at_ Tryz.prog Tryz.f208 xE_ := ai_
theorem lp_ (l : List UInt8) (hl : l.length ≤ 1048576) (h : List Row) : aa_ Tryz.prog 208 [.val (.string (txt l))] h (kv_ (cs_ l [])) := by
 refine kd_ (T := 179) (e := 5) (by cases cs_ l [] <;> rfl) rfl ?_ h
 refine lY_ (by decide) mixed Tryz.func208 BN_ rfl ?_
 have hz : pg_ = .agg #[.pointer none, .slice none 0 0] := rfl
 simp (disch := omega) only [xE_, CB_, ← hz, go_sem]
 refine fun b => ?_
 refine l7_ (fun n t σ => ∃ (i : Nat) (acc : List UInt8), t 0 = .val (.string (txt l)) ∧ t 5 = l8_ b ∧ t 6 = .val (.int .i64 i) ∧ σ = some (b, acc) ∧ n = l.length - i ∧ i ≤ l.length ∧ acc.length ≤ i ∧ cs_ l [] = cs_ (l.drop i) acc) l.length ?_ ?_
 ·exact ⟨0, [], rfl, rfl, rfl, rfl, rfl, by omega, Nat.le_refl _, rfl⟩
 ·rintro J hJ n t σ ⟨i, acc, t0, t5, t6, rfl, rfl, hi, hac, hS⟩
  by_cases hlt : i + 1 < l.length
  ·have hlt' : (i : Int) + 1 < l.length := by omega
   have hlt0 : i < l.length := by omega
   have ei : (i : Int) + 1 = ((i + 1 : Nat) : Int) := by omega
   have ei2 : (i : Int) + 2 = ((i + 2 : Nat) : Int) := by omega
   rw [mo_ l acc i hlt] at hS
   by_cases q : l[i] = 0
   ·rw [if_pos q] at hS
    have q' : ((l[i].toNat : Int) = 0) = True := by simp [q]
    by_cases q1 : l[i + 1] = 0
    ·rw [if_pos q1] at hS
     have q1' : ((l[i + 1].toNat : Int) = 0) = True := by simp [q1]
     simp (disch := omega) only [t0, t5, t6, ei, ei2, hlt, q', q1', ar_, go_sem, Nat.reduceEqDiff, reduceCtorEq, ↓reduceIte]
     refine ⟨_, xZ_ ⟨rfl, rfl⟩, ?_⟩
     rw [hS, take_length]; rfl
    ·rw [if_neg q1] at hS
     have q1' : ((l[i + 1].toNat : Int) = 0) = False := by rw [eq_iff_iff, iff_false]; intro e; exact q1 (UInt8.toNat_inj.1 (by have h2 : (0 : UInt8).toNat = 0 := rfl; omega))
     by_cases q2 : l[i + 1] = 255
     ·rw [if_pos q2] at hS
      have q2' : ((l[i + 1].toNat : Int) = 255) = True := by simp [q2]
      simp (disch := omega) only [t0, t5, t6, ei, hlt, q', q1', q2', ar_, go_sem, Nat.reduceEqDiff, reduceCtorEq, ↓reduceIte]
      refine ms_ (c := 0) (by omega) ?_
      simp (disch := omega) only [t6, ei, ar_, go_sem, Nat.reduceEqDiff, ↓reduceIte]
      exact ⟨l.length - (i + 2), by omega, hJ _ _ _ ⟨i + 2, acc ++ [0], by simp [upd, t0], by simp [upd, t5], by simp [upd]; omega, rfl, rfl, by omega, by simp; omega, hS⟩⟩
     ·rw [if_neg q2] at hS
      have q2' : ((l[i + 1].toNat : Int) = 255) = False := by rw [eq_iff_iff, iff_false]; intro e; exact q2 (UInt8.toNat_inj.1 (by have h2 : (255 : UInt8).toNat = 255 := rfl; omega))
      simp (disch := omega) only [t0, t6, ei, hlt, q', q1', q2', ar_, go_sem, Nat.reduceEqDiff, reduceCtorEq, ↓reduceIte]
      rw [hS]; rfl
   ·rw [if_neg q] at hS
    have q' : ((l[i].toNat : Int) = 0) = False := by rw [eq_iff_iff, iff_false]; intro e; exact q (UInt8.toNat_inj.1 (by have h2 : (0 : UInt8).toNat = 0 := rfl; omega))
    simp (disch := omega) only [t0, t5, t6, ei, hlt, q', ar_, go_sem, Nat.reduceEqDiff, reduceCtorEq, ↓reduceIte]
    refine ms_ (c := l[i]) (by omega) ?_
    simp (disch := omega) only [t6, ei, ar_, go_sem, Nat.reduceEqDiff, ↓reduceIte]
    exact ⟨l.length - (i + 1), by omega, hJ _ _ _ ⟨i + 1, acc ++ [l[i]], by simp [upd, t0], by simp [upd, t5], by simp [upd]; try omega, rfl, rfl, by omega, by simp; omega, hS⟩⟩
  ·have hlt' : ¬ (i : Int) + 1 < l.length := by omega
   simp (disch := omega) only [t0, t6, hlt', ar_, go_sem, Nat.reduceEqDiff, reduceCtorEq, ↓reduceIte]
   rw [hS, od_ l acc i (by omega)]; rfl
def nF_ (l : List UInt8) : Option (List UInt8 × List UInt8) := if l.length < 8 then none else if 2000000000000000000 < cr_ 0 (l.take 8) then none else some (gT_ ((cr_ 0 (l.take 8) : Int) - 1000000000000000000), l.drop 8)
theorem EF_ (q : Bool) (a : Int) : bf_ .shl q (.val (.int .u64 a)) (.val (.int .u64 8)) = some (.val (.int .u64 (IntKind.u64.wrap (a * 256)))) := by
 rw [ri_ _ _ _ _ _ (by decide)]; rfl
theorem nT_ (l : List UInt8) (k : Nat) (h : k < l.length) : cr_ 0 (l.take (k + 1)) = cr_ 0 (l.take k) * 256 + l[k].toNat := by
 rw [take_succ_eq_append_getElem h, t4_]
theorem kM_ (l : List UInt8) (k : Nat) (h : k ≤ 7) : cr_ 0 (l.take k) < 72057594037927936 := by
 have h1 := nO_ (l.take k) 0
 have h2 : (l.take k).length ≤ 7 := by rw [length_take]; omega
 have h3 : 256 ^ (l.take k).length ≤ 256 ^ 7 := Nat.pow_le_pow_right (by decide) h2
 omega
theorem j6_ (l : List UInt8) : cr_ 0 (l.take 8) < 18446744073709551616 := by
 have h1 := nO_ (l.take 8) 0
 have h2 : (l.take 8).length ≤ 8 := by rw [length_take]; omega
 have h3 : 256 ^ (l.take 8).length ≤ 256 ^ 8 := Nat.pow_le_pow_right (by decide) h2
 omega
theorem rE_ (n : Int) : fa_ n = gT_ n := by
 unfold fa_ gT_
 by_cases h : jd_ n = true
 ·rw [if_pos h, if_pos ((hE_ n).1 h)]
 ·rw [if_neg h, if_neg (fun q => h ((hE_ n).2 q))]
def BQ_ : LC :=
 .seq (.ops [.s 2 (.mov (.const (.string ⟨#[]⟩))), .s 3 (.mov (.const (.string ⟨#[]⟩))), .s 4 (.mov (.const (.bool false)))]) (.seq (.seq (.ops [.m 7 0, .s 8 (.lenStr (.tmp 7)), .bk 9 .lss false 8 8]) (.cond (.tmp 9)
 (.seq (.ops [.s 2 (.mov (.const (.string ⟨#[]⟩))), .s 3 (.mov (.const (.string ⟨#[]⟩))), .s 4 (.mov (.const (.bool false)))]) .ret) .skip)) (.seq (.ops [.s 5 (.mov (.const (.int .u64 0)))]) (.seq (.seq (.ops [.ki 10 0])
 (.block 0 (.loop (.seq (.ops [.bk 11 .lss false 10 8]) (.seq (.cond (.tmp 11) .skip (.exit 0)) (.seq (.block 1 (.seq (.ops [.m 12 10, .m 6 12]) (.ops [.m 13 5, .s 14 (.bin .shl false (.tmp 13) (.const (.int .u64 8))), .m
 15 0, .m 16 6, .s 17 (.indexStr (.tmp 15) (.tmp 16)), .s 18 (.convInt .u64 (.tmp 17)), .bb 19 .add false 14 18, .m 5 19]))) (.ops [.bk 20 .add false 10 1, .m 10 20]))))))) (.seq (.seq (.ops [.m 21 5, .s 22 (.bin .gtr
 false (.tmp 21) (.const (.int .u64 2000000000000000000)))]) (.cond (.tmp 22) (.seq (.ops [.s 2 (.mov (.const (.string ⟨#[]⟩))), .s 3 (.mov (.const (.string ⟨#[]⟩))), .s 4 (.mov (.const (.bool false)))]) .ret) .skip))
 (.seq (.dops [.m 23 5, .s 24 (.convInt .i64 (.tmp 23)), .bk 25 .sub false 24 1000000000000000000, .c1 26 224 25, .m 27 0, .s 28 (.sliceStr (.tmp 27) (some (.const (.int .i64 8))) none), .m 2 26, .m 3 28, .s 4 (.mov
 (.const (.bool true)))]) .ret)))))
def xB_ : LF := ⟨1, 29, BQ_, [.tmp 2, .tmp 3, .tmp 4]⟩
theorem Dv_ : at_ Tryz.prog Tryz.f207 xB_ := ai_
theorem lv_ (l : List UInt8) (hl : l.length ≤ 1048576) (h : List Row) : aa_ Tryz.prog 207 [.val (.string (txt l))] h (kv_ (nF_ l)) := by
 refine aj_ mixed Tryz.func207 Dv_ rfl rfl ?_ h
 simp (disch := omega) only [xB_, BQ_, go_sem, reduceCtorEq, ↓reduceIte]
 by_cases h8 : (l.length : Int) < 8
 ·simp (disch := omega) only [h8, go_sem, Nat.reduceEqDiff, ↓reduceIte]
  rw [nF_, if_pos (by omega)]
  exact ⟨2, rfl⟩
 simp (disch := omega) only [h8, go_sem]
 refine aL_ (fun n t h => ∃ k : Nat, t 0 = .val (.string (txt l)) ∧ t 5 = .val (.int .u64 (cr_ 0 (l.take k))) ∧ t 10 = .val (.int .i64 k) ∧ h = [] ∧ n = 8 - k ∧ k ≤ 8) 8 ?_ ?_
 ·exact ⟨0, rfl, rfl, rfl, rfl, rfl, by omega⟩
 rintro J hJ n t h ⟨k, t0, t5, t10, rfl, rfl, hk⟩
 by_cases hlt : k < 8
 ·have hkl : k < l.length := by omega
  have hkI : (k : Int) < 8 := by omega
  have hb := kM_ l k (by omega)
  have hu := mK_ l[k]
  simp (disch := omega) only [t0, t5, t10, hkI, EF_, vC_, pa_, ar_, go_sem, Nat.reduceEqDiff, reduceCtorEq, ↓reduceIte]
  exact ⟨8 - (k + 1), by omega, hJ _ _ _ ⟨k + 1, by simp [upd, t0], by simp only [upd]; rw [nT_ l k hkl]; simp, by simp [upd], rfl, rfl, by omega⟩⟩
 ·have hk8 : k = 8 := by omega
  have hkI : ¬ (k : Int) < 8 := by omega
  rw [hk8] at t5
  have hb := j6_ l
  by_cases hg : (2000000000000000000 : Int) < (cr_ 0 (l.take 8) : Nat)
  ·simp (disch := omega) only [t5, t10, hkI, hg, go_sem, Nat.reduceEqDiff, ↓reduceIte]
   rw [nF_, if_neg (by omega), if_pos (by omega)]
   exact ⟨2, rfl⟩
  ·simp (disch := omega) only [t0, t5, t10, hkI, hg, ar_, go_sem, Nat.reduceEqDiff, reduceCtorEq, Int.reduceLE, Int.reduceToNat, ↓reduceIte]
   refine aa_.q (iB_ _ _) ?_
   rw [nF_, if_neg (by omega), if_neg (by omega), rE_, take_length]
   exact ⟨2, rfl⟩
abbrev eh_ (out : List (List UInt8)) : List (List AV) := (out.map txt).map am_
theorem pF_ (out : List (List UInt8)) : bss (out.map txt) = out := by
 rw [bss, map_map]
 conv => rhs; rw [← map_id out]
 exact map_congr_left fun x _ => cd_ x
theorem eb_ (out : List (List UInt8)) : bg_ (out.map txt) = eJ_ out := by
 rw [Bool.eq_iff_iff]
 simp only [bg_, eJ_, bQ_, CV_, length_map, all_map, Bool.and_eq_true, decide_eq_true_eq, all_eq_true, Function.comp, cb_]
 constructor
 ·rintro ⟨h1, h2⟩
  exact ⟨by omega, fun x hx => by have := h2 x hx; omega⟩
 ·rintro ⟨h1, h2⟩
  exact ⟨by omega, fun x hx => by have := h2 x hx; omega⟩
theorem f0_ (l : List UInt8) (h : 0 < l.length) : dV_ l = if l[0] = 1 then nF_ (l.drop 1) else if l[0] = 2 then cs_ (l.drop 1) [] else none := by
 cases l with
 | nil => simp at h
 | cons b l => rfl
theorem iS_ : kv_ none = .tup [.val (.string (txt [])), .val (.string (txt [])), .val (.bool false)] := rfl
theorem iY_ (t r : List UInt8) : kv_ (some (t, r)) = .tup [.val (.string (txt t)), .val (.string (txt r)), .val (.bool true)] := rfl
def dX_ (s : ByteArray) : List ByteArray × Bool :=
 match f2_ dV_ (bs s) with
 | some xs => (xs.map txt, true)
 | none => ([], false)
abbrev oY_ (p : List ByteArray × Bool) : AV := .tup [.list 0 1 (p.1.map am_), .val (.bool p.2)]
theorem kz_ {s : ByteArray} (h : cV_ dV_ 5 (bs s) [] = none) : dX_ s = ([], false) := by
 rw [dX_, f2_, h]
theorem nk_ {s : ByteArray} {out : List (List UInt8)} {left : List UInt8} (h : cV_ dV_ 5 (bs s) [] = some (out, left)) (q : ¬ (left = [] ∧ eJ_ out = true ∧ cU_ out = bs s)) : dX_ s = ([], false) := by
 rw [dX_, f2_, h]; simp only; rw [if_neg q]
theorem uW_ {s : ByteArray} {out : List (List UInt8)} (h : cV_ dV_ 5 (bs s) [] = some (out, [])) (h2 : eJ_ out = true) (h3 : cU_ out = bs s) : dX_ s = (out.map txt, true) := by
 simp [dX_, f2_, h, h2, h3]
theorem tQ_ {out : List (List UInt8)} (h : eJ_ out = true) : out.length ≤ 4 := by
 simp only [eJ_, Bool.and_eq_true, decide_eq_true_eq] at h; exact h.1
theorem oy_ (out : List (List UInt8)) : ∀ e ∈ eh_ out, e.all AV.flat = true := by
 intro e he
 obtain ⟨x, _, q⟩ := mem_map.1 he; subst q; rfl
theorem p2_ (h0 : List Row) (out : List (List UInt8)) (rest : List Row) : [AV.own h0.length out.length].mapM (AW.resolve (h0 ++ ⟨9, 1, eh_ out⟩ :: rest) 2) = some [.list 0 1 (eh_ out)] :=
 pt_ (li_ (n := 0) (r := ⟨9, 1, eh_ out⟩) (by rw [cy_]; rfl) (by simp) (oy_ out))
theorem fr_ {base l : Nat} {H : List Row} {E : Tag} {out : List ByteArray} (hl : H[l]? = some ⟨E, 1, out.map am_⟩) (hb : base ≤ l) : aA_ base (l + 1) H (.own l out.length) (.list 0 1 (out.map am_)) :=
 aA_.mkown (lo := l + 1) (hi := l + 1) (bw_.ofVals _ _ _ _ (by
  intro e he c hc
  obtain ⟨x, _, q⟩ := mem_map.1 he; subst q
  simp only [am_, mem_singleton] at hc
  exact ⟨_, hc⟩)) hl (by simp) hb (Nat.lt_succ_self _) (Nat.le_refl _)
theorem c2_ {lo hi : Nat} {H : List Row} {a r : AV} (h : aA_ lo hi H a r) (hlh : lo ≤ hi) (v : Value) : el_ lo H (.tup [a, .val v]) (.tup [r, .val v]) :=
 (aA_.tup (ap_.cons h (ap_.val v (ap_.nil hi hi H)) ⟨hlh, Nat.le_refl _⟩)).fresh
theorem t9_ {out : List (List UInt8)} (h : eJ_ out = true) : iZ_ (out.map txt) = cU_ out := by
 rw [iZ_, eb_, if_pos h, pF_]
theorem om_ (take : List UInt8 → Option (List UInt8 × List UInt8)) (f : Nat) (l : List UInt8) (out : List (List UInt8)) (h : l ≠ []) : cV_ take (f + 1) l out = match take l with
 | none => none
 | some (t, r) => cV_ take f r (out ++ [t]) := by
 rw [cV_, if_neg h]; cases take l <;> rfl
theorem lK_ (l : List UInt8) : (txt l = txt []) = (l = []) := rp_ l []
def AX_ : LC :=
 .seq (.ops [.s 2 (.mov (.const (.slice none 0 0))), .s 3 (.mov (.const (.bool false)))]) (.seq (.ops [.s 8 (.buildSlice 9 1 (.string ⟨#[]⟩) 0 []), .m 9 0, .m 4 8, .m 5 9]) (.seq (.block 0 (.loop (.seq (.seq (.ops [.m 10
 5, .s 11 (.bin .neq false (.tmp 10) (.const (.string ⟨#[]⟩))), .m 12 11, .g 13 12 true (.mov (.tmp 4)), .g 14 12 true (.lenSl (.tmp 13)), .g 15 12 true (.bin .leq false (.tmp 14) (.const (.int .i64 4))), .pf 16 12 15])
 (.cond (.tmp 16) .skip (.exit 0))) (.block 1 (.seq (.ops [.s 6 (.mov (.const (.string ⟨#[]⟩)))]) (.seq (.ops [.s 7 (.mov (.const (.bool false)))]) (.seq (.seq (.ops [.m 17 5, .s 18 (.indexStr (.tmp 17) (.const (.int .i64
 0)))]) (.block 2 (.seq (.ops [.s 20 (.bin .eql false (.tmp 18) (.const (.int .u8 1))), .m 19 20]) (.cond (.tmp 19) (.ops [.m 22 5, .s 23 (.sliceStr (.tmp 22) (some (.const (.int .i64 1))) none), .c1 24 207 23, .m 21 24,
 .ex 25 21 0, .ex 26 21 1, .ex 27 21 2, .m 6 25, .m 5 26, .m 7 27]) (.seq (.ops [.s 29 (.bin .eql false (.tmp 18) (.const (.int .u8 2))), .m 28 29]) (.cond (.tmp 28) (.ops [.m 31 5, .s 32 (.sliceStr (.tmp 31) (some
 (.const (.int .i64 1))) none), .c1 33 208 32, .m 30 33, .ex 34 30 0, .ex 35 30 1, .ex 36 30 2, .m 6 34, .m 5 35, .m 7 36]) .skip)))))) (.seq (.seq (.ops [.m 37 7, .nt 38 37]) (.cond (.tmp 38) (.seq (.ops [.s 2 (.mov
 (.const (.slice none 0 0))), .s 3 (.mov (.const (.bool false)))]) .ret) .skip)) (.ops [.m 39 4, .m 40 6, .s 41 (.buildSlice 9 1 (.string ⟨#[]⟩) 1 [(0, .tmp 40)]), .ap 42 9 1 16 39 41, .m 4 42]))))))))) (.seq (.seq (.ops
 [.m 43 4, .c1 44 143 43, .nt 45 44, .m 46 45, .g 47 46 false (.mov (.tmp 4)), .g 48 46 false (.call 153 [.tmp 47]), .g 49 46 false (.mov (.tmp 0)), .g 50 46 false (.bin .neq false (.tmp 48) (.tmp 49)), .pt 51 46 50])
 (.cond (.tmp 51) (.seq (.ops [.s 2 (.mov (.const (.slice none 0 0))), .s 3 (.mov (.const (.bool false)))]) .ret) .skip)) (.seq (.ops [.m 52 4, .m 2 52, .s 3 (.mov (.const (.bool true)))]) .ret))))
def xL_ : LF := ⟨1, 53, AX_, [.tmp 2, .tmp 3]⟩
theorem C2_ : at_ Tryz.prog Tryz.f180 xL_ := ai_
theorem k9_ (s : ByteArray) (hs : s.size ≤ 1048576) : aP_ Tryz.prog 180 [.val (.string s)] (oY_ (dX_ s)) (fun a => ∃ b q, a = .tup [b, .val (.bool q)]) := by
 refine da_ mixed Tryz.func180 C2_ rfl (fun h0 => ?_)
 have hbl := e5_ s
 simp (disch := omega) only [xL_, AX_, go_sem, Nat.reduceEqDiff, reduceCtorEq, ↓reduceIte]
 refine aL_ (fun n t h => ∃ (out : List (List UInt8)) (left : List UInt8) (rest : List Row), t 0 = .val (.string s) ∧ t 4 = .own h0.length out.length ∧ t 5 = .val (.string (txt left)) ∧ h = h0 ++ ⟨9, 1, eh_ out⟩ :: rest ∧ n = 5 - out.length ∧ out.length ≤ 5 ∧ left.length ≤ s.size ∧ cV_ dV_ 5 (bs s) [] = cV_ dV_ (5 - out.length) left out) 5 ?_ ?_
 ·exact ⟨[], bs s, [], rfl, rfl, by rw [eA_]; rfl, rfl, rfl, by simp, Nat.le_of_eq (e5_ s), rfl⟩
 rintro J hJ n t h ⟨out, left, rest, t0, t4, t5, rfl, rfl, ho, hle, hS⟩
 have fl : (eh_ out).length = out.length := by simp
 have hA := p2_ h0 out rest
 by_cases q0 : left = []
 ·subst q0
  have hR : cV_ dV_ 5 (bs s) [] = some (out, []) := by
   rw [hS]; cases 5 - out.length with
   | zero => rw [cV_]
   | succ f => rw [cV_, if_pos rfl]
  have q0' : (txt ([] : List UInt8) = txt []) = True := by simp
  simp (disch := omega) only [t4, t5, fl, ag_, go_sem, Nat.reduceEqDiff, Nat.reduceLeDiff, Int.reduceLE, Int.reduceToNat, ↓reduceIte]
  refine aa_.call (AW.frozen (cc_ (out.map txt) (by simp; omega)) hA) ?_
  by_cases s1 : eJ_ out = true
  case neg =>
   have s1' : bg_ (out.map txt) = false := by rw [eb_]; simpa using s1
   simp (disch := omega) only [t4, s1', ag_, go_sem, Nat.reduceEqDiff, ↓reduceIte]
   rw [nk_ hR (fun q => s1 q.2.1)]
   exact ⟨_, rfl, c2_ (aA_.mknil _ _ _ 1) (Nat.le_refl _) _, _, _, rfl⟩
  have s1' : bg_ (out.map txt) = true := by rw [eb_]; exact s1
  simp (disch := omega) only [t4, s1', go_sem, Nat.reduceEqDiff, ↓reduceIte]
  refine aa_.call (AW.frozen (iz_ (out.map txt) (by simp; omega)) hA) ?_
  rw [t9_ s1]
  by_cases s2 : cU_ out = bs s
  case neg =>
   have s2' : (txt (cU_ out) = s) = False := by rw [eq_iff_iff, iff_false]; intro e; exact s2 (by rw [← e]; exact (cd_ _).symm)
   simp (disch := omega) only [t0, t4, s2', ag_, go_sem, Nat.reduceEqDiff, reduceCtorEq, ↓reduceIte]
   rw [nk_ hR (fun q => s2 q.2.2)]
   exact ⟨_, rfl, c2_ (aA_.mknil _ _ _ 1) (Nat.le_refl _) _, _, _, rfl⟩
  have s2' : (txt (cU_ out) = s) = True := by rw [s2, eA_]; simp
  simp (disch := omega) only [t0, t4, s2', ag_, go_sem, Nat.reduceEqDiff, reduceCtorEq, ↓reduceIte]
  rw [uW_ hR s1 s2]
  have hz := c2_ (fr_ (base := h0.length) (l := h0.length) (E := 9) (out := out.map txt) (H := h0 ++ ⟨9, 1, eh_ out⟩ :: rest) (by rw [cy_]; rfl) (Nat.le_refl _)) (by omega) (.bool true)
  rw [length_map] at hz
  exact ⟨_, rfl, hz, _, _, rfl⟩
 ·have hpos : 0 < left.length := by cases left with
   | nil => exact absurd rfl q0
   | cons b l => simp
  have q0' : (txt left = txt []) = False := by rw [lK_]; simp [q0]
  by_cases q4 : out.length ≤ 4
  ·have q4' : (out.length : Int) ≤ 4 := by omega
   have e5 : 5 - out.length = (4 - out.length) + 1 := by omega
   rw [e5, om_ dV_ (4 - out.length) left out q0] at hS
   have hdl : (left.drop 1).length ≤ 1048576 := by rw [length_drop]; omega
   by_cases q1 : left[0] = 1
   ·have q1' : ((left[0].toNat : Int) = 1) = True := by simp [q1]
    simp (disch := omega) only [t4, t5, q0', q4', q1', fl, take_length, ag_, go_sem, Nat.reduceEqDiff, Nat.reduceLeDiff, Int.reduceLE, Int.reduceToNat, ↓reduceIte]
    have hc := fun h => lv_ (left.drop 1) hdl h
    cases hn : nF_ (left.drop 1) with
    | none =>
     rw [hn, iS_] at hc
     rw [f0_ left hpos, if_pos q1, hn] at hS
     refine aa_.call (hc _) ?_
     simp (disch := omega) only [t4, fl, ag_, go_sem, Nat.reduceEqDiff, Nat.reduceLeDiff, ↓reduceIte]
     rw [kz_ (by rw [hS])]
     exact ⟨_, rfl, c2_ (aA_.mknil _ _ _ 1) (Nat.le_refl _) _, _, _, rfl⟩
    | some p =>
     obtain ⟨x, r⟩ := p
     rw [hn, iY_] at hc
     have hlen := ok_ left x r (by rw [f0_ left hpos, if_pos q1, hn])
     rw [f0_ left hpos, if_pos q1, hn] at hS
     refine aa_.call (hc _) ?_
     simp (disch := omega) only [t4, fl, ag_, go_sem, Nat.reduceEqDiff, Nat.reduceLeDiff, ↓reduceIte]
     refine ⟨by omega, by omega, ?_⟩
     try simp (disch := omega) only [t0, t4, t5, q0', q4', fl, ag_, go_sem, Nat.reduceEqDiff, Nat.reduceAdd, Nat.reduceLeDiff, reduceCtorEq, Int.reduceLT, Int.reduceLE, Int.reduceNeg, Int.reduceSub, Int.reduceAdd, Int.reduceToNat, ↓reduceIte]
     exact ⟨5 - (out.length + 1), by omega, hJ _ _ _ ⟨out ++ [x], r, rest ++ [⟨9, 1, [[.val (.string (txt x))]]⟩], by simp [upd, t0], by simp [upd], by simp [upd], by simp [am_], by simp, by simp; omega, by omega, by simpa [Nat.sub_sub] using hS⟩⟩
   ·have q1' : ((left[0].toNat : Int) = 1) = False := by rw [eq_iff_iff, iff_false]; intro e; exact q1 (UInt8.toNat_inj.1 (by have h2 : (1 : UInt8).toNat = 1 := rfl; omega))
    by_cases q2 : left[0] = 2
    ·have q2' : ((left[0].toNat : Int) = 2) = True := by simp [q2]
     simp (disch := omega) only [t4, t5, q0', q4', q1', q2', fl, take_length, ag_, go_sem, Nat.reduceEqDiff, Nat.reduceLeDiff, Int.reduceLE, Int.reduceToNat, ↓reduceIte]
     have hc := fun h => lp_ (left.drop 1) hdl h
     cases hn : cs_ (left.drop 1) [] with
     | none =>
      rw [hn, iS_] at hc
      rw [f0_ left hpos, if_neg q1, if_pos q2, hn] at hS
      refine aa_.call (hc _) ?_
      simp (disch := omega) only [t4, fl, ag_, go_sem, Nat.reduceEqDiff, Nat.reduceLeDiff, ↓reduceIte]
      rw [kz_ (by rw [hS])]
      exact ⟨_, rfl, c2_ (aA_.mknil _ _ _ 1) (Nat.le_refl _) _, _, _, rfl⟩
     | some p =>
      obtain ⟨x, r⟩ := p
      rw [hn, iY_] at hc
      have hlen := ok_ left x r (by rw [f0_ left hpos, if_neg q1, if_pos q2, hn])
      rw [f0_ left hpos, if_neg q1, if_pos q2, hn] at hS
      refine aa_.call (hc _) ?_
      simp (disch := omega) only [t4, fl, ag_, go_sem, Nat.reduceEqDiff, Nat.reduceLeDiff, ↓reduceIte]
      refine ⟨by omega, by omega, ?_⟩
      try simp (disch := omega) only [t0, t4, t5, q0', q4', fl, ag_, go_sem, Nat.reduceEqDiff, Nat.reduceAdd, Nat.reduceLeDiff, reduceCtorEq, Int.reduceLT, Int.reduceLE, Int.reduceNeg, Int.reduceSub, Int.reduceAdd, Int.reduceToNat, ↓reduceIte]
      exact ⟨5 - (out.length + 1), by omega, hJ _ _ _ ⟨out ++ [x], r, rest ++ [⟨9, 1, [[.val (.string (txt x))]]⟩], by simp [upd, t0], by simp [upd], by simp [upd], by simp [am_], by simp, by simp; omega, by omega, by simpa [Nat.sub_sub] using hS⟩⟩
    ·have q2' : ((left[0].toNat : Int) = 2) = False := by rw [eq_iff_iff, iff_false]; intro e; exact q2 (UInt8.toNat_inj.1 (by have h2 : (2 : UInt8).toNat = 2 := rfl; omega))
     rw [f0_ left hpos, if_neg q1, if_neg q2] at hS
     simp (disch := omega) only [t4, t5, q0', q4', q1', q2', fl, take_length, ag_, go_sem, Nat.reduceEqDiff, Nat.reduceLeDiff, Int.reduceLE, Int.reduceToNat, ↓reduceIte]
     rw [kz_ (by rw [hS])]
     exact ⟨_, rfl, c2_ (aA_.mknil _ _ _ 1) (Nat.le_refl _) _, _, _, rfl⟩
  ·have q4' : ¬ (out.length : Int) ≤ 4 := by omega
   have e0 : 5 - out.length = 0 := by omega
   have hR : cV_ dV_ 5 (bs s) [] = some (out, left) := by rw [hS, e0, cV_]
   have s1 : ¬ eJ_ out = true := fun q => q4 (tQ_ q)
   simp (disch := omega) only [t4, t5, q0', q4', fl, ag_, go_sem, Nat.reduceEqDiff, Nat.reduceLeDiff, Int.reduceLE, Int.reduceToNat, ↓reduceIte]
   refine aa_.call (AW.frozen (cc_ (out.map txt) (by simp; omega)) hA) ?_
   have s1' : bg_ (out.map txt) = false := by rw [eb_]; simpa using s1
   simp (disch := omega) only [t4, s1', ag_, go_sem, Nat.reduceEqDiff, ↓reduceIte]
   rw [nk_ hR (fun q => s1 q.2.1)]
   exact ⟨_, rfl, c2_ (aA_.mknil _ _ _ 1) (Nat.le_refl _) _, _, _, rfl⟩
theorem ih_ (s : ByteArray) (hs : s.size ≤ 1048576) (h : List Row) : aa_ Tryz.prog 180 [.val (.string s)] h (oY_ (dX_ s)) := (k9_ s hs).pure rfl h
theorem DO_ (q : Bool) (a : Int) : bf_ .shl q (.val (.int .i64 a)) (.val (.int .u64 8)) = some (.val (.int .i64 (IntKind.i64.wrap (a * 256)))) := by
 rw [ri_ _ _ _ _ _ (by decide)]; rfl
theorem or8 (q : Bool) (x b : Nat) (h : b < 256) (hx : x < 72057594037927936) : bf_ .or q (.val (.int .i64 (IntKind.i64.wrap ((IntKind.i64.wrap (x : Int)) * 256)))) (.val (.int .i64 (b : Int))) = some (.val (.int .i64 (IntKind.i64.wrap ((x * 256 + b : Nat) : Int)))) := by
 have h8 : (2 : Int) ^ (min (8 : Int).toNat 64) = 256 := by decide
 have := ya_ x b h (by omega)
 rw [h8] at this
 rw [yz_, this, Nat.mod_eq_of_lt (by omega)]
theorem EN_ (q : Bool) (x b : Nat) (h : b < 256) (hx : x < 72057594037927936) : bf_ .or q (.val (.int .i64 (IntKind.i64.wrap ((x : Int) * 256)))) (.val (.int .i64 (b : Int))) = some (.val (.int .i64 (IntKind.i64.wrap ((x * 256 + b : Nat) : Int)))) := by
 have := or8 q x b h hx
 rwa [ar_ (n := (x : Int)) (by omega) (by omega)] at this
def CQ_ : LC :=
 .seq (.ops [.ki 2 0]) (.seq (.ops [.ki 3 0]) (.seq (.seq (.ops [.ki 4 0]) (.block 0 (.loop (.seq (.seq (.ops [.m 5 4, .bk 6 .lss false 5 8]) (.cond (.tmp 6) .skip (.exit 0))) (.seq (.block 1 (.ops [.m 9 3, .s 10 (.bin
 .shl false (.tmp 9) (.const (.int .u64 8))), .m 11 0, .m 12 4, .s 13 (.indexStr (.tmp 11) (.tmp 12)), .s 14 (.convInt .i64 (.tmp 13)), .bb 15 .or false 10 14, .m 3 15])) (.ops [.m 7 4, .bk 8 .add false 7 1, .m 4 8]))))))
 (.seq (.ops [.m 16 3, .m 2 16]) .ret)))
def x6_ : LF := ⟨1, 17, CQ_, [.tmp 2]⟩
theorem Cp_ : at_ Tryz.prog Tryz.f195 x6_ := ai_
theorem nL_ (l : List UInt8) (hl : l.length = 8) (h : List Row) : aa_ Tryz.prog 195 [.val (.string (txt l))] h (.val (.int .i64 (IntKind.i64.wrap (cr_ 0 l)))) := by
 refine aj_ mixed Tryz.func195 Cp_ rfl rfl ?_ h
 simp (disch := omega) only [x6_, CQ_, go_sem]
 refine aL_ (fun n t h => ∃ k : Nat, t 0 = .val (.string (txt l)) ∧ t 3 = .val (.int .i64 (IntKind.i64.wrap (cr_ 0 (l.take k)))) ∧ t 4 = .val (.int .i64 k) ∧ h = [] ∧ n = 8 - k ∧ k ≤ 8) 8 ?_ ?_
 ·exact ⟨0, rfl, by rw [take_zero, pS_]; rfl, rfl, rfl, rfl, by omega⟩
 rintro J hJ n t h ⟨k, t0, t3, t4, rfl, rfl, hk⟩
 by_cases hlt : k < 8
 ·have hkl : k < l.length := by omega
  have hkI : (k : Int) < 8 := by omega
  have hb := kM_ l k (by omega)
  have hu := mK_ l[k]
  simp (disch := omega) only [t0, t3, t4, hkI, DO_, EN_, ar_, go_sem, Nat.reduceEqDiff, reduceCtorEq, ↓reduceIte]
  exact ⟨8 - (k + 1), by omega, hJ _ _ _ ⟨k + 1, by simp [upd, t0], by rw [nT_ l k hkl]; simp [upd], by simp [upd], rfl, rfl, by omega⟩⟩
 ·have hkI : ¬ (k : Int) < 8 := by omega
  simp (disch := omega) only [t3, t4, hkI, go_sem, Nat.reduceEqDiff, ↓reduceIte]
  rw [take_of_length_le (by omega)]
  exact ⟨1, rfl⟩
theorem va_ (l : List UInt8) (h : 0 < l.length) : dr_ l = if l[0] = 1 ∧ 9 ≤ l.length then (if 1 ≤ cr_ 0 ((l.drop 1).take 8) ∧ cr_ 0 ((l.drop 1).take 8) ≤ 1999999999999999999 then some (bZ_ ((cr_ 0 ((l.drop 1).take 8) : Int) - 1000000000000000000), (l.drop 1).drop 8) else none) else if l[0] = 2 then cs_ (l.drop 1) [] else none := by
 cases l with
 | nil => simp at h
 | cons b l =>
  have e : (9 ≤ (b :: l).length) = (8 ≤ l.length) := by simp
  rw [dr_]
  simp only [e, getElem_cons_zero, drop_succ_cons, drop_zero]
theorem qw_ (N : Nat) (h : N < 18446744073709551616) : dq_ (IntKind.i64.wrap (N : Int)) 1 1999999999999999999 = decide (1 ≤ N ∧ N ≤ 1999999999999999999) := by
 rw [dq_, IntKind.wrap_i64, Bool.eq_iff_iff]
 simp only [Bool.and_eq_true, decide_eq_true_eq]
 omega
def AE_ : LC :=
 .seq (.ops [.s 2 (.mov (.const (.string ⟨#[]⟩))), .s 3 (.mov (.const (.string ⟨#[]⟩))), .s 4 (.mov (.const (.bool false)))]) (.seq (.seq (.ops [.m 8 0, .s 9 (.indexStr (.tmp 8) (.const (.int .i64 0))), .s 10 (.bin .eql
 false (.tmp 9) (.const (.int .u8 1))), .m 11 10, .g 12 11 true (.mov (.tmp 0)), .g 13 11 true (.lenStr (.tmp 12)), .g 14 11 true (.bin .geq false (.tmp 13) (.const (.int .i64 9))), .pf 15 11 14]) (.cond (.tmp 15) (.seq
 (.ops [.m 16 0, .s 17 (.sliceStr (.tmp 16) (some (.const (.int .i64 1))) (some (.const (.int .i64 9)))), .c1 18 195 17, .m 5 18]) (.seq (.seq (.ops [.m 19 5, .s 20 (.call 113 [.tmp 19, .const (.int .i64 1), .const (.int
 .i64 1999999999999999999)]), .nt 21 20]) (.cond (.tmp 21) (.seq (.ops [.s 2 (.mov (.const (.string ⟨#[]⟩))), .s 3 (.mov (.const (.string ⟨#[]⟩))), .s 4 (.mov (.const (.bool false)))]) .ret) .skip)) (.seq (.dops [.m 22 5,
 .bk 23 .sub false 22 1000000000000000000, .c1 24 196 23, .m 25 0, .s 26 (.sliceStr (.tmp 25) (some (.const (.int .i64 9))) none), .m 2 24, .m 3 26, .s 4 (.mov (.const (.bool true)))]) .ret))) .skip)) (.seq (.seq (.ops
 [.m 27 0, .s 28 (.indexStr (.tmp 27) (.const (.int .i64 0))), .s 29 (.bin .neq false (.tmp 28) (.const (.int .u8 2)))]) (.cond (.tmp 29) (.seq (.ops [.s 2 (.mov (.const (.string ⟨#[]⟩))), .s 3 (.mov (.const (.string
 ⟨#[]⟩))), .s 4 (.mov (.const (.bool false)))]) .ret) .skip)) (.seq (.ops [.s 30 (.buildSlice 5 1 (.int .u8 0) 0 []), .m 6 30]) (.seq (.seq (.ops [.ki 7 1]) (.block 0 (.loop (.seq (.seq (.ops [.m 31 7, .bk 32 .add false
 31 1, .m 33 0, .s 34 (.lenStr (.tmp 33)), .bb 35 .lss false 32 34]) (.cond (.tmp 35) .skip (.exit 0))) (.seq (.block 1 (.seq (.seq (.ops [.m 38 0, .m 39 7, .s 40 (.indexStr (.tmp 38) (.tmp 39)), .s 41 (.bin .neq false
 (.tmp 40) (.const (.int .u8 0)))]) (.cond (.tmp 41) (.seq (.ops [.m 42 6, .m 43 0, .m 44 7, .s 45 (.indexStr (.tmp 43) (.tmp 44)), .s 46 (.buildSlice 5 1 (.int .u8 0) 1 [(0, .tmp 45)]), .ap 47 5 1 1 42 46, .m 6 47])
 (.exit 1)) .skip)) (.seq (.seq (.ops [.m 48 0, .m 49 7, .bk 50 .add false 49 1, .s 51 (.indexStr (.tmp 48) (.tmp 50)), .s 52 (.bin .eql false (.tmp 51) (.const (.int .u8 0)))]) (.cond (.tmp 52) (.seq (.dops [.m 53 6, .s
 54 (.toStr (.tmp 53)), .m 55 0, .m 56 7, .bk 57 .add false 56 2, .s 58 (.sliceStr (.tmp 55) (some (.tmp 57)) none), .m 2 54, .m 3 58, .s 4 (.mov (.const (.bool true)))]) .ret) .skip)) (.seq (.seq (.ops [.m 59 0, .m 60 7,
 .bk 61 .add false 60 1, .s 62 (.indexStr (.tmp 59) (.tmp 61)), .s 63 (.bin .neq false (.tmp 62) (.const (.int .u8 255)))]) (.cond (.tmp 63) (.seq (.ops [.s 2 (.mov (.const (.string ⟨#[]⟩))), .s 3 (.mov (.const (.string
 ⟨#[]⟩))), .s 4 (.mov (.const (.bool false)))]) .ret) .skip)) (.seq (.ops [.m 64 6, .s 65 (.buildSlice 5 1 (.int .u8 0) 1 [(0, .const (.int .u8 0))]), .ap 66 5 1 1 64 65, .m 6 66]) (.ops [.m 67 7, .bk 68 .add false 67 1,
 .m 7 68])))))) (.ops [.m 36 7, .bk 37 .add false 36 1, .m 7 37])))))) (.seq (.ops [.s 2 (.mov (.const (.string ⟨#[]⟩))), .s 3 (.mov (.const (.string ⟨#[]⟩))), .s 4 (.mov (.const (.bool false)))]) .ret)))))
def wQ_ : LF := ⟨1, 69, AE_, [.tmp 2, .tmp 3, .tmp 4]⟩
theorem y5_ : at_ Tryz.prog Tryz.f161 wQ_ := ai_
theorem m7_ (l : List UInt8) (hp : 0 < l.length) (hl : l.length ≤ 1048576) (h : List Row) : aa_ Tryz.prog 161 [.val (.string (txt l))] h (kv_ (dr_ l)) := by
 refine aj_ mixed Tryz.func161 y5_ rfl rfl ?_ h
 rw [va_ l hp]
 simp (disch := omega) only [wQ_, AE_, go_sem, reduceCtorEq, Int.reduceLE, ↓reduceIte]
 by_cases q1 : l[0] = 1
 ·have q1' : ((l[0].toNat : Int) = 1) = True := by simp [q1]
  have q12 : ((l[0].toNat : Int) = 2) = False := by simp [q1]
  have q2n : ¬ l[0] = 2 := by rw [q1]; decide
  by_cases q9 : 9 ≤ l.length
  ·have q9' : (9 : Int) ≤ l.length := by omega
   have e9 : List.drop 1 (List.take 9 l) = (l.drop 1).take 8 := by rw [drop_take]
   have e10 : List.drop 9 l = (l.drop 1).drop 8 := by rw [drop_drop]
   have hN := j6_ (l.drop 1)
   rw [if_pos ⟨q1, q9⟩]
   simp (disch := omega) only [q1', q9', e9, ag_, go_sem, Nat.reduceEqDiff, Nat.reduceLeDiff, reduceCtorEq, Int.reduceLE, Int.reduceToNat, ↓reduceIte]
   refine aa_.call (nL_ _ (by simp; omega) _) ?_
   simp (disch := omega) only [go_sem, ↓reduceIte]
   refine aa_.call (ht_ _ _ _ _) ?_
   rw [qw_ _ hN]
   by_cases qr : 1 ≤ cr_ 0 ((l.drop 1).take 8) ∧ cr_ 0 ((l.drop 1).take 8) ≤ 1999999999999999999
   ·rw [if_pos qr]
    have qr' : decide (1 ≤ cr_ 0 ((l.drop 1).take 8) ∧ cr_ 0 ((l.drop 1).take 8) ≤ 1999999999999999999) = true := by simpa using qr
    simp (disch := omega) only [qr', ar_, take_length, e10, ag_, go_sem, Nat.reduceEqDiff, reduceCtorEq, Int.reduceLE, Int.reduceToNat, ↓reduceIte]
    refine aa_.q (iH_ _ (by omega) (by omega) _) ?_
    exact ⟨2, rfl⟩
   ·rw [if_neg qr]
    have qr' : decide (1 ≤ cr_ 0 ((l.drop 1).take 8) ∧ cr_ 0 ((l.drop 1).take 8) ≤ 1999999999999999999) = false := by simpa using qr
    simp (disch := omega) only [qr', ag_, go_sem, Nat.reduceEqDiff, reduceCtorEq, Int.reduceLE, Int.reduceToNat, ↓reduceIte]
    exact ⟨2, rfl⟩
  ·have q9' : ¬ (9 : Int) ≤ l.length := by omega
   rw [if_neg (fun z => q9 z.2), if_neg q2n]
   simp (disch := omega) only [q1', q9', q12, ag_, go_sem, Nat.reduceEqDiff, Nat.reduceLeDiff, reduceCtorEq, Int.reduceLE, Int.reduceToNat, ↓reduceIte]
   exact ⟨2, rfl⟩
 ·have q1' : ((l[0].toNat : Int) = 1) = False := by rw [eq_iff_iff, iff_false]; intro e; exact q1 (UInt8.toNat_inj.1 (by have h2 : (1 : UInt8).toNat = 1 := rfl; omega))
  rw [if_neg (fun z => q1 z.1)]
  by_cases q2 : l[0] = 2
  case neg =>
   have q2' : ((l[0].toNat : Int) = 2) = False := by rw [eq_iff_iff, iff_false]; intro e; exact q2 (UInt8.toNat_inj.1 (by have h2 : (2 : UInt8).toNat = 2 := rfl; omega))
   rw [if_neg q2]
   simp (disch := omega) only [q1', q2', ag_, go_sem, Nat.reduceEqDiff, Nat.reduceLeDiff, reduceCtorEq, Int.reduceLE, Int.reduceToNat, ↓reduceIte]
   exact ⟨2, rfl⟩
  have q2' : ((l[0].toNat : Int) = 2) = True := by simp [q2]
  rw [if_pos q2]
  simp (disch := omega) only [q1', q2', ag_, go_sem, Nat.reduceEqDiff, Nat.reduceLeDiff, reduceCtorEq, Int.reduceLE, Int.reduceToNat, ↓reduceIte]
  refine aL_ (fun n t h => ∃ (i : Nat) (acc : List UInt8) (rest : List Row), t 0 = .val (.string (txt l)) ∧ t 6 = .own 0 acc.length ∧ t 7 = .val (.int .i64 i) ∧ h = ⟨5, 1, bq_ acc⟩ :: rest ∧ n = l.length + 1 - i ∧ i ≤ l.length ∧ acc.length ≤ i ∧ cs_ (l.drop 1) [] = cs_ (l.drop i) acc) l.length ?_ ?_
  ·exact ⟨1, [], [], rfl, rfl, rfl, rfl, by omega, by omega, by simp, rfl⟩
  rintro J hJ n t h ⟨i, acc, rest, t0, t6, t7, rfl, rfl, hi, hac, hS⟩
  have fl := fU_ acc
  by_cases hlt : i + 1 < l.length
  ·have hlt' : (i : Int) + 1 < l.length := by omega
   have hlt0 : i < l.length := by omega
   have ei : (i : Int) + 1 = ((i + 1 : Nat) : Int) := by omega
   have ei2 : (i : Int) + 2 = ((i + 2 : Nat) : Int) := by omega
   rw [mo_ l acc i hlt] at hS
   by_cases r0 : l[i] = 0
   ·rw [if_pos r0] at hS
    have r0' : ((l[i].toNat : Int) = 0) = True := by simp [r0]
    by_cases r1 : l[i + 1] = 0
    ·rw [if_pos r1] at hS
     have r1' : ((l[i + 1].toNat : Int) = 0) = True := by simp [r1]
     simp (disch := omega) only [t0, t6, t7, ei, ei2, hlt, r0', r1', ar_, fl, hG_, take_length, Option.map_some, go_sem, Nat.reduceEqDiff, reduceCtorEq, ↓reduceIte]
     rw [hS]
     exact ⟨2, rfl⟩
    ·rw [if_neg r1] at hS
     have r1' : ((l[i + 1].toNat : Int) = 0) = False := by rw [eq_iff_iff, iff_false]; intro e; exact r1 (UInt8.toNat_inj.1 (by have h2 : (0 : UInt8).toNat = 0 := rfl; omega))
     by_cases r2 : l[i + 1] = 255
     ·rw [if_pos r2] at hS
      have r2' : ((l[i + 1].toNat : Int) = 255) = True := by simp [r2]
      simp (disch := omega) only [t0, t6, t7, ei, hlt, r0', r1', r2', ar_, fl, go_sem, Nat.reduceEqDiff, Nat.reduceLeDiff, reduceCtorEq, ↓reduceIte]
      refine ⟨by omega, by omega, ?_⟩
      try simp (disch := omega) only [t0, t6, t7, ei, ei2, hlt, hlt0, r0', r1', r2', ar_, fl, go_sem, Nat.reduceEqDiff, Nat.reduceAdd, Nat.reduceLeDiff, reduceCtorEq, Int.reduceLT, Int.reduceLE, Int.reduceNeg, Int.reduceSub, Int.reduceAdd, Int.reduceToNat, ↓reduceIte]
      exact ⟨l.length + 1 - (i + 2), by omega, hJ _ _ _ ⟨i + 2, acc ++ [0], rest ++ [⟨5, 1, bq_ [0]⟩], by simp [upd, t0], by simp [upd], by simp [upd]; try omega, by simp [bq_], rfl, by omega, by simp; omega, hS⟩⟩
     ·rw [if_neg r2] at hS
      have r2' : ((l[i + 1].toNat : Int) = 255) = False := by rw [eq_iff_iff, iff_false]; intro e; exact r2 (UInt8.toNat_inj.1 (by have h2 : (255 : UInt8).toNat = 255 := rfl; omega))
      simp (disch := omega) only [t0, t7, ei, hlt, r0', r1', r2', ar_, go_sem, Nat.reduceEqDiff, reduceCtorEq, ↓reduceIte]
      rw [hS]
      exact ⟨2, rfl⟩
   ·rw [if_neg r0] at hS
    have r0' : ((l[i].toNat : Int) = 0) = False := by rw [eq_iff_iff, iff_false]; intro e; exact r0 (UInt8.toNat_inj.1 (by have h2 : (0 : UInt8).toNat = 0 := rfl; omega))
    simp (disch := omega) only [t0, t6, t7, ei, hlt, r0', ar_, fl, go_sem, Nat.reduceEqDiff, Nat.reduceLeDiff, reduceCtorEq, ↓reduceIte]
    refine ⟨by omega, by omega, ?_⟩
    try simp (disch := omega) only [t0, t6, t7, ei, ei2, hlt, hlt0, r0', ar_, fl, go_sem, Nat.reduceEqDiff, Nat.reduceAdd, Nat.reduceLeDiff, reduceCtorEq, Int.reduceLT, Int.reduceLE, Int.reduceNeg, Int.reduceSub, Int.reduceAdd, Int.reduceToNat, ↓reduceIte]
    exact ⟨l.length + 1 - (i + 1), by omega, hJ _ _ _ ⟨i + 1, acc ++ [l[i]], rest ++ [⟨5, 1, bq_ [l[i]]⟩], by simp [upd, t0], by simp [upd], by simp [upd]; try omega, by simp [bq_], rfl, by omega, by simp; omega, hS⟩⟩
  ·have hlt' : ¬ (i : Int) + 1 < l.length := by omega
   simp (disch := omega) only [t0, t7, hlt', ar_, go_sem, Nat.reduceEqDiff, reduceCtorEq, ↓reduceIte]
   rw [hS, od_ l acc i (by omega)]
   exact ⟨2, rfl⟩
theorem By_ (l : List UInt8) (i : Nat) (h : i < l.length) : esc (l.drop i) = if l[i] = 0 then 0 :: 255 :: esc (l.drop (i + 1)) else l[i] :: esc (l.drop (i + 1)) := by
 rw [drop_eq_getElem_cons h, esc]
theorem x3_ (n k : Nat) (h : k < 8) : IntKind.u8.wrap ((n : Int).fdiv (2 ^ min (8 * (7 - (k : Int))).toNat 64)) = ((do_ n (7 - k)).toNat : Int) := by
 have e : (8 * (7 - (k : Int))).toNat = (8 * ((7 - k : Nat) : Int)).toNat := by omega
 rw [e, o7_ _ _ (by omega), mx_]
theorem nK_ (l : List UInt8) (b : UInt8) : bq_ l ++ [[AV.val (.int .u8 b.toNat)]] = bq_ (l ++ [b]) := by simp [bq_]
def Da_ : LC :=
 .seq (.ops [.s 2 (.mov (.const (.string ⟨#[]⟩)))]) (.seq (.ops [.s 7 (.buildSlice 5 1 (.int .u8 0) 0 []), .m 3 7]) (.seq (.seq (.ops [.m 8 0, .c1 9 221 8]) (.cond (.tmp 9) (.seq (.ops [.m 10 0, .c1 11 222 10, .bk 12 .add
 false 11 1000000000000000000, .m 4 12]) (.seq (.ops [.m 13 3, .s 14 (.buildSlice 5 1 (.int .u8 0) 1 [(0, .const (.int .u8 1))]), .ap 15 5 1 1 13 14, .m 3 15]) (.seq (.seq (.ops [.ki 5 7]) (.block 0 (.loop (.seq (.seq
 (.ops [.m 16 5, .bk 17 .geq false 16 0]) (.cond (.tmp 17) .skip (.exit 0))) (.seq (.block 1 (.ops [.m 20 3, .m 21 4, .m 22 5, .s 23 (.bin .mul false (.const (.int .i64 8)) (.tmp 22)), .bb 24 .shr false 21 23, .s 25
 (.convInt .u8 (.tmp 24)), .s 26 (.buildSlice 5 1 (.int .u8 0) 1 [(0, .tmp 25)]), .ap 27 5 1 1 20 26, .m 3 27])) (.ops [.m 18 5, .bk 19 .sub false 18 1, .m 5 19])))))) (.seq (.ops [.m 28 3, .s 29 (.toStr (.tmp 28)), .m 2
 29]) .ret)))) .skip)) (.seq (.ops [.m 30 3, .s 31 (.buildSlice 5 1 (.int .u8 0) 1 [(0, .const (.int .u8 2))]), .ap 32 5 1 1 30 31, .m 3 32]) (.seq (.seq (.ops [.ki 6 0]) (.block 2 (.loop (.seq (.seq (.ops [.m 33 6, .m 34
 0, .s 35 (.lenStr (.tmp 34)), .bb 36 .lss false 33 35]) (.cond (.tmp 36) .skip (.exit 2))) (.seq (.block 3 (.seq (.ops [.m 39 3, .m 40 0, .m 41 6, .s 42 (.indexStr (.tmp 40) (.tmp 41)), .s 43 (.buildSlice 5 1 (.int .u8
 0) 1 [(0, .tmp 42)]), .ap 44 5 1 1 39 43, .m 3 44]) (.seq (.ops [.m 45 0, .m 46 6, .s 47 (.indexStr (.tmp 45) (.tmp 46)), .s 48 (.bin .eql false (.tmp 47) (.const (.int .u8 0)))]) (.cond (.tmp 48) (.ops [.m 49 3, .s 50
 (.buildSlice 5 1 (.int .u8 0) 1 [(0, .const (.int .u8 255))]), .ap 51 5 1 1 49 50, .m 3 51]) .skip)))) (.ops [.m 37 6, .bk 38 .add false 37 1, .m 6 38])))))) (.seq (.ops [.m 52 3, .s 53 (.buildSlice 5 1 (.int .u8 0) 2
 [(0, .const (.int .u8 0)), (1, .const (.int .u8 0))]), .ap 54 5 1 1 52 53, .s 55 (.toStr (.tmp 54)), .m 2 55]) .ret)))))
def w4_ : LF := ⟨1, 56, Da_, [.tmp 2]⟩
theorem z9_ : at_ Tryz.prog Tryz.f197 w4_ := ai_
theorem nB_ (l : List UInt8) (hl : l.length ≤ 1048576) (h : List Row) : aa_ Tryz.prog 197 [.val (.string (txt l))] h (.val (.string (txt (cx_ l)))) := by
 refine aj_ mixed Tryz.func197 z9_ rfl rfl ?_ h
 simp (disch := omega) only [w4_, Da_, go_sem, reduceCtorEq, ↓reduceIte]
 refine aa_.call (hV_ l (by omega) _) ?_
 by_cases q : b1_ l = true
 ·simp (disch := omega) only [q, go_sem, reduceCtorEq, ↓reduceIte]
  refine aa_.call (hq_ l (by omega) _) ?_
  have hn := eG_ l
  have hq := ik_ l
  have hq2 := iw_ l
  have hkey : cx_ l = 1 :: be8 (di_ l) := by unfold cx_; rw [if_pos q]
  simp (disch := omega) only [ar_, ← hq, go_sem, Nat.reduceEqDiff, Nat.reduceLeDiff, ↓reduceIte]
  refine ⟨by omega, ?_⟩
  try simp (disch := omega) only [ar_, ← hq, go_sem, Nat.reduceEqDiff, Nat.reduceAdd, Nat.reduceLeDiff, reduceCtorEq, Int.reduceLT, Int.reduceLE, Int.reduceNeg, Int.reduceSub, Int.reduceAdd, Int.reduceToNat, ↓reduceIte]
  refine aL_ (fun n t h => ∃ (k : Nat) (rest : List Row), t 3 = .own 0 (1 + k) ∧ t 4 = .val (.int .i64 (di_ l)) ∧ t 5 = .val (.int .i64 (7 - k)) ∧ h = ⟨5, 1, bq_ (1 :: (be8 (di_ l)).take k)⟩ :: rest ∧ n = 8 - k ∧ k ≤ 8) 8 ?_ ?_
  ·exact ⟨0, _, rfl, rfl, rfl, rfl, rfl, by omega⟩
  rintro J hJ n t h ⟨k, rest, t3, t4, t5, rfl, rfl, hk⟩
  have fl : (bq_ (1 :: (be8 (di_ l)).take k)).length = 1 + k := by
   rw [fU_, lc_, length_take, d8_]; omega
  by_cases hlt : k < 8
  ·have hg : (0 : Int) ≤ 7 - k := by omega
   simp (disch := omega) only [t3, t4, t5, hg, fl, ns_, nI_, ar_, x3_, go_sem, Nat.reduceEqDiff, Nat.reduceLeDiff, ↓reduceIte]
   refine ⟨by omega, by omega, ?_⟩
   try simp (disch := omega) only [t3, t4, t5, hg, fl, ns_, nI_, ar_, x3_, go_sem, Nat.reduceEqDiff, Nat.reduceAdd, Nat.reduceLeDiff, reduceCtorEq, Int.reduceLT, Int.reduceLE, Int.reduceNeg, Int.reduceSub, Int.reduceAdd, Int.reduceToNat, ↓reduceIte]
   refine ⟨8 - (k + 1), by omega, hJ _ _ _ ⟨k + 1, rest ++ [⟨5, 1, bq_ [do_ (di_ l) (7 - k)]⟩], by simp [upd]; try omega, by simp [upd, t4], by simp [upd]; try omega, ?_, rfl, by omega⟩⟩
   rw [nK_, cons_append, ← p5_ _ _ hlt]
   rfl
  ·have hg : ¬ (0 : Int) ≤ 7 - k := by omega
   simp (disch := omega) only [t3, t5, hg, fl, hG_, Option.map_some, go_sem, Nat.reduceEqDiff, ↓reduceIte]
   rw [rw_ _ _ (by omega), ← hkey]
   exact ⟨1, rfl⟩
 ·have q' : b1_ l = false := by simpa using q
  have hkey : cx_ l = 2 :: (esc l ++ [0, 0]) := by unfold cx_; rw [if_neg q]
  simp (disch := omega) only [q', go_sem, Nat.reduceEqDiff, Nat.reduceLeDiff, ↓reduceIte]
  refine ⟨by omega, ?_⟩
  try simp (disch := omega) only [go_sem, Nat.reduceEqDiff, Nat.reduceAdd, Nat.reduceLeDiff, reduceCtorEq, Int.reduceLT, Int.reduceLE, Int.reduceNeg, Int.reduceSub, Int.reduceAdd, Int.reduceToNat, ↓reduceIte]
  refine aL_ (fun n t h => ∃ (i : Nat) (out : List UInt8) (rest : List Row), t 0 = .val (.string (txt l)) ∧ t 3 = .own 0 out.length ∧ t 6 = .val (.int .i64 i) ∧ h = ⟨5, 1, bq_ out⟩ :: rest ∧ n = l.length - i ∧ i ≤ l.length ∧ out.length ≤ 1 + 2 * i ∧ 2 :: esc l = out ++ esc (l.drop i)) l.length ?_ ?_
  ·exact ⟨0, [2], _, rfl, rfl, rfl, rfl, rfl, by omega, by simp, rfl⟩
  rintro J hJ n t h ⟨i, out, rest, t0, t3, t6, rfl, rfl, hi, hol, hS⟩
  have fl := fU_ out
  by_cases hlt : i < l.length
  ·have hltI : (i : Int) < l.length := by omega
   rw [By_ l i hlt] at hS
   by_cases r0 : l[i] = 0
   ·rw [if_pos r0] at hS
    have r0' : ((l[i].toNat : Int) = 0) = True := by simp [r0]
    simp (disch := omega) only [t0, t3, t6, hltI, r0', fl, ar_, go_sem, Nat.reduceEqDiff, Nat.reduceLeDiff, reduceCtorEq, ↓reduceIte]
    refine ⟨by omega, by omega, ?_⟩
    refine ⟨by omega, by omega, ?_⟩
    refine ⟨l.length - (i + 1), by omega, hJ _ _ _ ⟨i + 1, out ++ [0, 255], rest ++ [⟨5, 1, bq_ [l[i]]⟩, ⟨5, 1, bq_ [255]⟩], by simp [upd, t0], by simp [upd], by simp [upd]; try omega, by simp [bq_, r0], rfl, by omega, by simp; omega, by rw [hS]; simp⟩⟩
   ·rw [if_neg r0] at hS
    have r0' : ((l[i].toNat : Int) = 0) = False := by rw [eq_iff_iff, iff_false]; intro e; exact r0 (UInt8.toNat_inj.1 (by have h2 : (0 : UInt8).toNat = 0 := rfl; omega))
    simp (disch := omega) only [t0, t3, t6, hltI, r0', fl, ar_, go_sem, Nat.reduceEqDiff, Nat.reduceLeDiff, reduceCtorEq, ↓reduceIte]
    refine ⟨by omega, by omega, ?_⟩
    try simp (disch := omega) only [t0, t3, t6, hltI, hlt, r0', fl, ar_, go_sem, Nat.reduceEqDiff, Nat.reduceAdd, Nat.reduceLeDiff, reduceCtorEq, Int.reduceLT, Int.reduceLE, Int.reduceNeg, Int.reduceSub, Int.reduceAdd, Int.reduceToNat, ↓reduceIte]
    exact ⟨l.length - (i + 1), by omega, hJ _ _ _ ⟨i + 1, out ++ [l[i]], rest ++ [⟨5, 1, bq_ [l[i]]⟩], by simp [upd, t0], by simp [upd], by simp [upd]; try omega, by simp [bq_], rfl, by omega, by simp; omega, by rw [hS]; simp⟩⟩
  ·have hltI : ¬ (i : Int) < l.length := by omega
   rw [drop_eq_nil_of_le (by omega), esc, append_nil] at hS
   simp (disch := omega) only [t0, t3, t6, hltI, fl, go_sem, Nat.reduceEqDiff, Nat.reduceAdd, Nat.reduceLeDiff, reduceCtorEq, ↓reduceIte]
   refine ⟨by omega, by omega, ?_⟩
   have e2 : bq_ out ++ [[AV.val (.int .u8 0)], [AV.val (.int .u8 0)]] = bq_ (out ++ [0, 0]) := by simp [bq_]
   simp (disch := omega) only [e2, hG_, Option.map_some, go_sem]
   rw [hkey, ← hS]
   exact ⟨1, rfl⟩
def Dx_ : LC :=
 .seq (.ops [.s 2 (.mov (.const (.string ⟨#[]⟩)))]) (.seq (.ops [.s 3 (.mov (.const (.string ⟨#[]⟩)))]) (.seq (.seq (.ops [.ki 4 0]) (.block 0 (.loop (.seq (.seq (.ops [.m 5 4, .m 6 0, .ll 7 6, .bb 8 .lss false 5 7])
 (.cond (.tmp 8) .skip (.exit 0))) (.seq (.block 1 (.ops [.m 11 3, .m 12 0, .m 13 4, .ia 14 1 12 13, .ln 15 14, .c1 16 197 15, .bb 17 .add false 11 16, .m 3 17])) (.ops [.m 9 4, .bk 10 .add false 9 1, .m 4 10])))))) (.seq
 (.ops [.m 18 3, .m 2 18]) .ret)))
def wm_ : LF := ⟨1, 19, Dx_, [.tmp 2]⟩
theorem C0_ : at_ Tryz.prog Tryz.f163 wm_ := ai_
theorem gV_ (xs : List ByteArray) (hx : bg_ xs = true) (h : List Row) : aa_ Tryz.prog 163 [.list 0 1 (xs.map am_)] h (.val (.string (txt (cU_ (bss xs))))) := by
 refine aj_ mixed Tryz.func163 C0_ rfl rfl ?_ h
 obtain ⟨h4, hm⟩ := eF_ hx
 simp (disch := omega) only [wm_, Dx_, go_sem]
 refine aL_ (fun n t h => ∃ k : Nat, t 0 = .list 0 1 (xs.map am_) ∧ t 3 = .val (.string (txt (cU_ (bss (xs.take k))))) ∧ t 4 = .val (.int .i64 k) ∧ h = [] ∧ n = xs.length - k ∧ k ≤ xs.length) xs.length ⟨0, rfl, rfl, rfl, rfl, rfl, Nat.zero_le _⟩ ?_
 rintro J hJ n t h ⟨k, t0, t3, t4, rfl, rfl, hk⟩
 by_cases hlt : k < xs.length
 ·have hltI : (k : Int) < xs.length := by omega
  have hl1 := jo_ (xs.take k) (fun x hx' => (hm x (mem_of_mem_take hx')).2)
  have hl2 : (xs.take k).length ≤ 4 := by rw [length_take]; omega
  have hl3 := kf_ (bs xs[k])
  have hl4 := hm _ (getElem_mem hlt)
  have hl5 : (bs xs[k]).length = xs[k].size := e5_ _
  have hc := fun h => nB_ (bs xs[k]) (by omega) h
  rw [eA_] at hc
  have hadd : (cU_ (bss (xs.take k))).length + (cx_ (bs xs[k])).length ≤ 9223372036854775807 := by omega
  simp (disch := omega) only [t0, t3, t4, hltI, go_sem, Nat.reduceEqDiff, reduceCtorEq, ↓reduceIte]
  refine aa_.call (hc _) ?_
  simp (disch := omega) only [t4, j4_ _ _ _ hadd, ar_, go_sem, Nat.reduceEqDiff, ↓reduceIte]
  refine ⟨xs.length - (k + 1), by omega, hJ _ _ _ ⟨k + 1, by simp [upd, t0], ?_, by simp [upd], rfl, rfl, by omega⟩⟩
  rw [take_succ_eq_append_getElem hlt, bss, bss, map_append, pB_]
  simp [upd, cU_]
 ·have hltI : ¬ (k : Int) < xs.length := by omega
  simp (disch := omega) only [t0, t3, t4, hltI, go_sem, Nat.reduceEqDiff, reduceCtorEq, ↓reduceIte]
  rw [take_of_length_le (by omega)]
  exact ⟨1, rfl⟩
theorem ua_ {s : ByteArray} (h : cV_ dr_ 5 (bs s) [] = none) : dX_ s = ([], false) := by
 rw [dX_, kF_, f2_, h]
theorem nz_ {s : ByteArray} {out : List (List UInt8)} {left : List UInt8} (h : cV_ dr_ 5 (bs s) [] = some (out, left)) (q : ¬ (left = [] ∧ eJ_ out = true ∧ cU_ out = bs s)) : dX_ s = ([], false) := by
 rw [dX_, kF_, f2_, h]; simp only; rw [if_neg q]
theorem u2_ {s : ByteArray} {out : List (List UInt8)} (h : cV_ dr_ 5 (bs s) [] = some (out, [])) (h2 : eJ_ out = true) (h3 : cU_ out = bs s) : dX_ s = (out.map txt, true) := by
 rw [dX_, kF_]; simp [f2_, h, h2, h3]
def AR_ : LC :=
 .seq (.ops [.s 2 (.mov (.const (.slice none 0 0))), .s 3 (.mov (.const (.bool false)))]) (.seq (.ops [.s 9 (.buildSlice 9 1 (.string ⟨#[]⟩) 0 []), .m 4 9]) (.seq (.ops [.m 10 0, .m 5 10]) (.seq (.block 0 (.loop (.seq
 (.seq (.ops [.m 11 5, .s 12 (.bin .neq false (.tmp 11) (.const (.string ⟨#[]⟩))), .m 13 12, .g 14 13 true (.mov (.tmp 4)), .g 15 13 true (.lenSl (.tmp 14)), .g 16 13 true (.bin .leq false (.tmp 15) (.const (.int .i64
 4))), .pf 17 13 16]) (.cond (.tmp 17) .skip (.exit 0))) (.block 1 (.seq (.ops [.m 19 5, .c1 20 161 19, .m 18 20, .ex 21 18 0, .ex 22 18 1, .ex 23 18 2, .m 6 21, .m 7 22, .m 8 23]) (.seq (.seq (.ops [.m 24 8, .nt 25 24])
 (.cond (.tmp 25) (.seq (.ops [.s 26 (.buildSlice 9 1 (.string ⟨#[]⟩) 0 []), .m 2 26, .s 3 (.mov (.const (.bool false)))]) .ret) .skip)) (.seq (.ops [.m 27 4, .m 28 6, .s 29 (.buildSlice 9 1 (.string ⟨#[]⟩) 1 [(0, .tmp
 28)]), .ap 30 9 1 16 27 29, .m 4 30]) (.ops [.m 31 7, .m 5 31])))))))) (.seq (.seq (.ops [.m 32 5, .s 33 (.bin .neq false (.tmp 32) (.const (.string ⟨#[]⟩))), .m 34 33, .g 35 34 false (.mov (.tmp 4)), .g 36 34 false
 (.call 162 [.tmp 35]), .g 37 34 false (.un .not (.tmp 36)), .pt 38 34 37, .m 39 38, .g 40 39 false (.mov (.tmp 4)), .g 41 39 false (.call 163 [.tmp 40]), .g 42 39 false (.mov (.tmp 0)), .g 43 39 false (.bin .neq false
 (.tmp 41) (.tmp 42)), .pt 44 39 43]) (.cond (.tmp 44) (.seq (.ops [.s 45 (.buildSlice 9 1 (.string ⟨#[]⟩) 0 []), .m 2 45, .s 3 (.mov (.const (.bool false)))]) .ret) .skip)) (.seq (.ops [.m 46 4, .m 2 46, .s 3 (.mov
 (.const (.bool true)))]) .ret)))))
def wp_ : LF := ⟨1, 47, AR_, [.tmp 2, .tmp 3]⟩
theorem Dk_ : at_ Tryz.prog Tryz.f124 wp_ := ai_
theorem kX_ (s : ByteArray) (hs : s.size ≤ 1048576) : aP_ Tryz.prog 124 [.val (.string s)] (oY_ (dX_ s)) (fun a => ∃ b q, a = .tup [b, .val (.bool q)]) := by
 refine da_ mixed Tryz.func124 Dk_ rfl (fun h0 => ?_)
 have hbl := e5_ s
 simp (disch := omega) only [wp_, AR_, go_sem, reduceCtorEq, ↓reduceIte]
 refine aL_ (fun n t h => ∃ (out : List (List UInt8)) (left : List UInt8) (rest : List Row), t 0 = .val (.string s) ∧ t 4 = .own h0.length out.length ∧ t 5 = .val (.string (txt left)) ∧ h = h0 ++ ⟨9, 1, eh_ out⟩ :: rest ∧ n = 5 - out.length ∧ out.length ≤ 5 ∧ left.length ≤ s.size ∧ cV_ dr_ 5 (bs s) [] = cV_ dr_ (5 - out.length) left out) 5 ?_ ?_
 ·exact ⟨[], bs s, [], rfl, rfl, by rw [eA_]; rfl, rfl, rfl, by simp, Nat.le_of_eq (e5_ s), rfl⟩
 rintro J hJ n t h ⟨out, left, rest, t0, t4, t5, rfl, rfl, ho, hle, hS⟩
 have fl : (eh_ out).length = out.length := by simp
 have hA := p2_ h0 out rest
 by_cases q0 : left = []
 ·subst q0
  have hR : cV_ dr_ 5 (bs s) [] = some (out, []) := by
   rw [hS]; cases 5 - out.length with
   | zero => rw [cV_]
   | succ f => rw [cV_, if_pos rfl]
  have q0' : (txt ([] : List UInt8) = txt []) = True := by simp
  simp (disch := omega) only [t4, t5, ag_, go_sem, Nat.reduceEqDiff, ↓reduceIte]
  refine aa_.call (AW.frozen (d7_ (out.map txt) (by simp; omega)) hA) ?_
  by_cases s1 : eJ_ out = true
  case neg =>
   have s1' : bg_ (out.map txt) = false := by rw [eb_]; simpa using s1
   simp (disch := omega) only [t4, s1', ag_, go_sem, Nat.reduceEqDiff, ↓reduceIte]
   rw [nz_ hR (fun q => s1 q.2.1)]
   exact ⟨_, rfl, c2_ (fr_ (out := []) (E := 9) (by first | (rw [b7_]; rfl) | (rw [b7_]; simp)) (by omega)) (by omega) _, _, _, rfl⟩
  have s1' : bg_ (out.map txt) = true := by rw [eb_]; exact s1
  simp (disch := omega) only [t4, s1', go_sem, Nat.reduceEqDiff, ↓reduceIte]
  refine aa_.call (AW.frozen (gV_ (out.map txt) s1') hA) ?_
  rw [pF_]
  by_cases s2 : cU_ out = bs s
  case neg =>
   have s2' : (txt (cU_ out) = s) = False := by rw [eq_iff_iff, iff_false]; intro e; exact s2 (by rw [← e]; exact (cd_ _).symm)
   simp (disch := omega) only [t0, t4, s2', ag_, go_sem, Nat.reduceEqDiff, reduceCtorEq, ↓reduceIte]
   rw [nz_ hR (fun q => s2 q.2.2)]
   exact ⟨_, rfl, c2_ (fr_ (out := []) (E := 9) (by first | (rw [b7_]; rfl) | (rw [b7_]; simp)) (by omega)) (by omega) _, _, _, rfl⟩
  have s2' : (txt (cU_ out) = s) = True := by rw [s2, eA_]; simp
  simp (disch := omega) only [t0, t4, s2', ag_, go_sem, Nat.reduceEqDiff, reduceCtorEq, ↓reduceIte]
  rw [u2_ hR s1 s2]
  have hz := c2_ (fr_ (base := h0.length) (l := h0.length) (E := 9) (out := out.map txt) (H := h0 ++ ⟨9, 1, eh_ out⟩ :: rest) (by rw [cy_]; rfl) (Nat.le_refl _)) (by omega) (.bool true)
  rw [List.length_map] at hz
  exact ⟨_, rfl, hz, _, _, rfl⟩
 ·have hpos : 0 < left.length := by cases left with
   | nil => exact absurd rfl q0
   | cons b l => simp
  have q0' : (txt left = txt []) = False := by rw [lK_]; simp [q0]
  by_cases q4 : out.length ≤ 4
  ·have q4' : (out.length : Int) ≤ 4 := by omega
   have e5 : 5 - out.length = (4 - out.length) + 1 := by omega
   rw [e5, om_ dr_ (4 - out.length) left out q0] at hS
   simp (disch := omega) only [t4, t5, q0', q4', fl, ag_, go_sem, Nat.reduceEqDiff, ↓reduceIte]
   have hc := fun h => m7_ left hpos (by omega) h
   cases hn : dr_ left with
   | none =>
    rw [hn, iS_] at hc
    rw [hn] at hS
    refine aa_.call (hc _) ?_
    simp (disch := omega) only [t4, fl, ag_, go_sem, Nat.reduceEqDiff, Nat.reduceLeDiff, ↓reduceIte]
    rw [ua_ (by rw [hS])]
    exact ⟨_, rfl, c2_ (fr_ (out := []) (E := 9) (by first | (rw [b7_]; rfl) | (rw [b7_]; simp)) (by omega)) (by omega) _, _, _, rfl⟩
   | some p =>
    obtain ⟨x, r⟩ := p
    rw [hn, iY_] at hc
    have hlen := td_ left x r hn
    rw [hn] at hS
    refine aa_.call (hc _) ?_
    simp (disch := omega) only [t4, fl, ag_, go_sem, Nat.reduceEqDiff, Nat.reduceLeDiff, ↓reduceIte]
    refine ⟨by omega, by omega, ?_⟩
    try simp (disch := omega) only [t0, t4, t5, q0', q4', fl, ag_, go_sem, Nat.reduceEqDiff, Nat.reduceAdd, Nat.reduceLeDiff, reduceCtorEq, Int.reduceLT, Int.reduceLE, Int.reduceNeg, Int.reduceSub, Int.reduceAdd, Int.reduceToNat, ↓reduceIte]
    exact ⟨5 - (out.length + 1), by omega, hJ _ _ _ ⟨out ++ [x], r, rest ++ [⟨9, 1, [[.val (.string (txt x))]]⟩], by simp [upd, t0], by simp [upd], by simp [upd], by simp [am_], by simp, by simp; omega, by omega, by simpa [Nat.sub_sub] using hS⟩⟩
  ·have q4' : ¬ (out.length : Int) ≤ 4 := by omega
   have e0 : 5 - out.length = 0 := by omega
   have hR : cV_ dr_ 5 (bs s) [] = some (out, left) := by rw [hS, e0, cV_]
   simp (disch := omega) only [t4, t5, q0', q4', fl, ag_, go_sem, Nat.reduceEqDiff, ↓reduceIte]
   rw [nz_ hR (fun q => q0 q.1)]
   exact ⟨_, rfl, c2_ (fr_ (out := []) (E := 9) (by first | (rw [b7_]; rfl) | (rw [b7_]; simp)) (by omega)) (by omega) _, _, _, rfl⟩
theorem iC_ (s : ByteArray) (hs : s.size ≤ 1048576) (h : List Row) : aa_ Tryz.prog 124 [.val (.string s)] h (oY_ (dX_ s)) := (kX_ s hs).pure rfl h
def ez_ (n : Int) : Bool := decide (n = 0) || decide (n = 1) || decide (n = 10) || decide (n = 11)
def Ax_ : LC :=
 .seq (.ops [.s 2 (.mov (.const (.bool false)))]) (.seq (.ops [.m 3 0, .bk 4 .eql false 3 0, .m 5 4, .g 6 5 false (.mov (.tmp 0)), .g 7 5 false (.bin .eql false (.tmp 6) (.const (.int .i64 1))), .pt 8 5 7, .m 9 8, .g 10 9
 false (.mov (.tmp 0)), .g 11 9 false (.bin .eql false (.tmp 10) (.const (.int .i64 10))), .pt 12 9 11, .m 13 12, .g 14 13 false (.mov (.tmp 0)), .g 15 13 false (.bin .eql false (.tmp 14) (.const (.int .i64 11))), .pt 16
 13 15, .m 2 16]) .ret)
def w5_ : LF := ⟨1, 17, Ax_, [.tmp 2]⟩
theorem z8_ : at_ Tryz.prog Tryz.f177 w5_ := ai_
theorem eV_ (n : Int)  (h : List Row) : aa_ Tryz.prog 177 [.val (.int .i64 n)] h (.val (.bool (ez_ n))) := by
 refine aj_ mixed Tryz.func177 z8_ rfl rfl ?_ h
 simp (disch := omega) only [w5_, Ax_, go_sem, reduceCtorEq, ↓reduceIte]
 repeat' (first
  | exact af_ _ _
  | (refine ae_ ?_; simp [ez_, *]; done)
  | simp (disch := omega) only [go_sem, Nat.reduceEqDiff, reduceCtorEq, ↓reduceIte]
  | ((first | (apply aT_; assumption) | (apply aS_; assumption) | (apply a8_; assumption) | (apply a9_; assumption)); intro hb; try simp only [hb])
  | ((first | (apply aF_; assumption) | (apply aE_; assumption) | (apply aO_; assumption) | (apply aN_; assumption)); intro hb; try simp only [hb])
  | ((first | apply az_ | apply aC_ | apply ak_ | apply an_) <;> intro hb <;> (try simp only [hb]) <;> (first | have hp := aV_ hb | have hp := aW_ hb | have hp := aX_ hb | have hp := aU_ hb | skip)))
def Bi_ : LC :=
 .seq (.ops [.s 2 (.mov (.const (.bool false)))]) (.seq (.ops [.m 3 0, .bk 4 .eql false 3 0, .m 5 4, .g 6 5 false (.mov (.tmp 0)), .g 7 5 false (.bin .eql false (.tmp 6) (.const (.int .i64 1))), .pt 8 5 7, .m 9 8, .g 10 9
 false (.mov (.tmp 0)), .g 11 9 false (.bin .eql false (.tmp 10) (.const (.int .i64 10))), .pt 12 9 11, .m 13 12, .g 14 13 false (.mov (.tmp 0)), .g 15 13 false (.bin .eql false (.tmp 14) (.const (.int .i64 11))), .pt 16
 13 15, .m 2 16]) .ret)
def xH_ : LF := ⟨1, 17, Bi_, [.tmp 2]⟩
theorem CZ_ : at_ Tryz.prog Tryz.f122 xH_ := ai_
theorem eZ_ (n : Int)  (h : List Row) : aa_ Tryz.prog 122 [.val (.int .i64 n)] h (.val (.bool (ez_ n))) := by
 refine aj_ mixed Tryz.func122 CZ_ rfl rfl ?_ h
 simp (disch := omega) only [xH_, Bi_, go_sem, reduceCtorEq, ↓reduceIte]
 repeat' (first
  | exact af_ _ _
  | (refine ae_ ?_; simp [ez_, *]; done)
  | simp (disch := omega) only [go_sem, Nat.reduceEqDiff, reduceCtorEq, ↓reduceIte]
  | ((first | (apply aT_; assumption) | (apply aS_; assumption) | (apply a8_; assumption) | (apply a9_; assumption)); intro hb; try simp only [hb])
  | ((first | (apply aF_; assumption) | (apply aE_; assumption) | (apply aO_; assumption) | (apply aN_; assumption)); intro hb; try simp only [hb])
  | ((first | apply az_ | apply aC_ | apply ak_ | apply an_) <;> intro hb <;> (try simp only [hb]) <;> (first | have hp := aV_ hb | have hp := aW_ hb | have hp := aX_ hb | have hp := aU_ hb | skip)))
def fk_ (s : ByteArray) : Bool := decide (64 < (s.size : Int))
def Ch_ : LC :=
 .seq (.ops [.s 2 (.mov (.const (.bool false)))]) (.seq (.ops [.m 3 0, .s 4 (.lenStr (.tmp 3)), .bk 5 .gtr false 4 64, .m 2 5]) .ret)
def xP_ : LF := ⟨1, 6, Ch_, [.tmp 2]⟩
theorem y8_ : at_ Tryz.prog Tryz.f206 xP_ := ai_
theorem iE_ (s : ByteArray)  (h : List Row) : aa_ Tryz.prog 206 [.val (.string s)] h (.val (.bool (fk_ s))) := by
 refine aj_ mixed Tryz.func206 y8_ rfl rfl ?_ h
 simp (disch := omega) only [xP_, Ch_, go_sem, reduceCtorEq, ↓reduceIte]
 repeat' (first
  | exact af_ _ _
  | (refine ae_ ?_; first | rfl | (simp only [fk_, *, Bool.and_true, Bool.true_and, Bool.and_false, Bool.false_and, Bool.or_true, Bool.true_or, Bool.or_false, Bool.false_or, Bool.not_true, Bool.not_false, decide_true, decide_false, Bool.and_self, Bool.or_self]; done) | (simp [fk_, *]; done))
  | simp (disch := omega) only [go_sem, Nat.reduceEqDiff, Nat.reduceAdd, Nat.reduceLeDiff, reduceCtorEq, Int.reduceLT, Int.reduceLE, Int.reduceNeg, Int.reduceSub, Int.reduceAdd, Int.reduceToNat, ↓reduceIte]
  | ((first | (apply aF_; assumption) | (apply aE_; assumption) | (apply aO_; assumption) | (apply aN_; assumption)); intro hb; try simp only [hb])
  | ((first | apply ak_ | apply an_) <;> intro hb <;> (try simp only [hb]) <;> (first | have hp := aV_ hb | have hp := aW_ hb | have hp := aX_ hb | have hp := aU_ hb | skip)))
def AO_ : LC :=
 .seq (.ops [.s 2 (.mov (.const (.bool false)))]) (.seq (.ops [.m 3 0, .s 4 (.call 181 [.tmp 3, .func 206]), .m 2 4]) .ret)
def wM_ : LF := ⟨1, 5, AO_, [.tmp 2]⟩
theorem z7_ : at_ Tryz.prog Tryz.f178 wM_ := ai_
theorem pb_ (xs : List ByteArray) (hx : xs.length ≤ 1048576) (h : List Row) : aa_ Tryz.prog 178 [.list 0 1 (xs.map am_)] h (.val (.bool (xs.any fk_))) := by
 refine aj_ mixed Tryz.func178 z7_ rfl rfl ?_ h
 simp (disch := omega) only [wM_, AO_, go_sem, reduceCtorEq, ↓reduceIte]
 repeat' (first
  | exact af_ _ _
  | simp (disch := omega) only [go_sem, ↓reduceIte]
  | (refine aa_.call (cu_ _ fk_ 206 hx (by kernel_rfl) (fun x _ h => iE_ x h) _) ?_)
  | (refine aa_.q (cu_ _ fk_ 206 hx (by kernel_rfl) (fun x _ h => iE_ x h) _) ?_)
  | ((first | (apply aF_; assumption) | (apply aE_; assumption) | (apply aO_; assumption) | (apply aN_; assumption)); intro hb; try simp only [hb])
  | ((first | apply ak_ | apply an_) <;> intro hb <;> (try simp only [hb]) <;> (first | have hp := aV_ hb | have hp := aW_ hb | have hp := aX_ hb | have hp := aU_ hb | skip)))
theorem gN_ (s : ByteArray) {H : List Row} (hl : H[1]? = some ⟨9, 1, [[.val (.string s)]]⟩) : aa_ Tryz.prog 178 [.own 1 1] H (.val (.bool (fk_ s))) := by
 have : aa_ Tryz.prog 178 [.own 1 1] H (.val (.bool ([s].any fk_))) := AW.frozen (n := 2) (pb_ [s] (by simp)) (pt_ (li_ (n := 0) hl rfl (by simp [AV.flat])))
 simpa using this
def bi_ (e : ab_) : Bool :=
 if e.Kind = 1 then ez_ e.N && !fk_ e.Value && (decide (e.N.tmod 10 = 1) || decide (e.Value = txt []))
 else if e.Kind = 4 then ez_ e.N && decide (e.Value = txt [])
 else if e.Kind = 5 then (decide (e.N = 1) || decide (e.N = -1)) && (decide (e.Value = txt []) || bQ_ e.Value)
 else if e.Kind = 6 then decide (e.N = 1) && (dX_ e.Value).2 || decide (e.N = 0) && decide (e.Value = txt [])
 else if e.Kind = 2 then decide (e.N = 0) && !fk_ e.Value
 else decide (e.Kind = 3) && decide (e.N = 0) && decide (e.Value = txt [])
def AA_ : LC :=
 .seq (.ops [.s 1 (.box 79 (.tmp 0)), .s 2 (.mov (.const (.bool false)))]) (.seq (.seq (.ops [.fa 5 0 1, .ln 6 5]) (.block 0 (.seq (.ops [.bk 8 .eql false 6 1, .m 7 8]) (.cond (.tmp 7) (.seq (.ops [.fa 9 4 1, .ln 10 9,
 .c1 11 177 10, .m 12 11, .g 13 12 true (.fieldAddr 3 (.tmp 1)), .g 14 12 true (.load none (.tmp 13)), .g 15 12 true (.buildSlice 9 1 (.string ⟨#[]⟩) 1 [(0, .tmp 14)]), .g 16 12 true (.call 178 [.tmp 15]), .g 17 12 true
 (.un .not (.tmp 16)), .pf 18 12 17, .m 19 18, .g 20 19 true (.fieldAddr 4 (.tmp 1)), .g 21 19 true (.load none (.tmp 20)), .g 22 19 true (.bin .rem false (.tmp 21) (.const (.int .i64 10))), .g 23 19 true (.bin .eql false
 (.tmp 22) (.const (.int .i64 1))), .g 24 19 true (.mov (.tmp 23)), .g 25 24 false (.fieldAddr 3 (.tmp 1)), .g 26 24 false (.load none (.tmp 25)), .g 27 24 false (.bin .eql false (.tmp 26) (.const (.string ⟨#[]⟩))), .g 28
 19 true (.pick (.tmp 24) (.const (.bool true)) (.tmp 27)), .pf 29 19 28, .m 2 29]) .ret) (.seq (.ops [.bk 31 .eql false 6 4, .m 30 31]) (.cond (.tmp 30) (.seq (.ops [.fa 32 4 1, .ln 33 32, .c1 34 177 33, .m 35 34, .g 36
 35 true (.fieldAddr 3 (.tmp 1)), .g 37 35 true (.load none (.tmp 36)), .g 38 35 true (.bin .eql false (.tmp 37) (.const (.string ⟨#[]⟩))), .pf 39 35 38, .m 2 39]) .ret) (.seq (.ops [.bk 41 .eql false 6 5, .m 40 41])
 (.cond (.tmp 40) (.seq (.ops [.fa 42 4 1, .ln 43 42, .bk 44 .eql false 43 1, .m 45 44, .g 46 45 false (.fieldAddr 4 (.tmp 1)), .g 47 45 false (.load none (.tmp 46)), .g 48 45 false (.bin .eql false (.tmp 47) (.const
 (.int .i64 (-1)))), .pt 49 45 48, .m 50 49, .g 51 50 true (.fieldAddr 3 (.tmp 1)), .g 52 50 true (.load none (.tmp 51)), .g 53 50 true (.bin .eql false (.tmp 52) (.const (.string ⟨#[]⟩))), .g 54 50 true (.mov (.tmp 53)),
 .g 55 54 false (.fieldAddr 3 (.tmp 1)), .g 56 54 false (.load none (.tmp 55)), .g 57 54 false (.call 179 [.tmp 56]), .g 58 50 true (.pick (.tmp 54) (.const (.bool true)) (.tmp 57)), .pf 59 50 58, .m 2 59]) .ret) (.seq
 (.ops [.bk 61 .eql false 6 6, .m 60 61]) (.cond (.tmp 60) (.seq (.ops [.fa 63 3 1, .ln 64 63, .c1 65 180 64, .m 62 65, .ex 66 62 0, .ex 67 62 1, .m 3 66, .m 4 67]) (.seq (.ops [.fa 68 4 1, .ln 69 68, .bk 70 .eql false 69
 1, .m 71 70, .g 72 71 true (.mov (.tmp 4)), .pf 73 71 72, .m 74 73, .g 75 74 false (.fieldAddr 4 (.tmp 1)), .g 76 74 false (.load none (.tmp 75)), .g 77 74 false (.bin .eql false (.tmp 76) (.const (.int .i64 0))), .g 78
 74 false (.mov (.tmp 77)), .g 79 78 true (.fieldAddr 3 (.tmp 1)), .g 80 78 true (.load none (.tmp 79)), .g 81 78 true (.bin .eql false (.tmp 80) (.const (.string ⟨#[]⟩))), .g 82 74 false (.pick (.tmp 78) (.tmp 81)
 (.const (.bool false))), .pt 83 74 82, .m 2 83]) .ret)) (.seq (.ops [.bk 85 .eql false 6 2, .m 84 85]) (.cond (.tmp 84) (.seq (.ops [.fa 86 4 1, .ln 87 86, .bk 88 .eql false 87 0, .m 89 88, .g 90 89 true (.fieldAddr 3
 (.tmp 1)), .g 91 89 true (.load none (.tmp 90)), .g 92 89 true (.buildSlice 9 1 (.string ⟨#[]⟩) 1 [(0, .tmp 91)]), .g 93 89 true (.call 178 [.tmp 92]), .g 94 89 true (.un .not (.tmp 93)), .pf 95 89 94, .m 2 95]) .ret)
 .skip)))))))))))) (.seq (.ops [.fa 96 0 1, .ln 97 96, .bk 98 .eql false 97 3, .m 99 98, .g 100 99 true (.fieldAddr 4 (.tmp 1)), .g 101 99 true (.load none (.tmp 100)), .g 102 99 true (.bin .eql false (.tmp 101) (.const
 (.int .i64 0))), .pf 103 99 102, .m 104 103, .g 105 104 true (.fieldAddr 3 (.tmp 1)), .g 106 104 true (.load none (.tmp 105)), .g 107 104 true (.bin .eql false (.tmp 106) (.const (.string ⟨#[]⟩))), .pf 108 104 107, .m 2
 108]) .ret))
def xs_ : LF := ⟨1, 109, AA_, [.tmp 2]⟩
theorem zi_ : at_ Tryz.prog Tryz.f141 xs_ := ai_
theorem fZ_ (x : ab_) (hx : ab_.sz x ≤ 1048576) (h : List Row) : aa_ Tryz.prog 141 [.agg (ab_.cells x)] h (.val (.bool (bi_ x))) := by
 refine aj_ mixed Tryz.func141 zi_ rfl rfl ?_ h
 have hv := ab_.sz_Value hx
 simp (disch := omega) only [xs_, AA_, ab_.cells, go_sem, Nat.reduceEqDiff, Nat.reduceAdd, Int.reduceNeg, ↓reduceIte]
 by_cases k1 : x.Kind = 1
 ·simp (disch := omega) only [k1, go_sem, Nat.reduceEqDiff, Int.reduceNeg, ↓reduceIte]
  repeat' (first
   | exact af_ _ _
   | (refine ae_ ?_; simp [bi_, *]; done)
   | simp (disch := omega) only [go_sem, Nat.reduceEqDiff, ↓reduceIte]
   | (refine aa_.call (eV_ _ _) ?_)
   | (refine aa_.q (eV_ _ _) ?_)
   | (refine aa_.call (gN_ x.Value rfl) ?_)
   | (refine aa_.q (gN_ x.Value rfl) ?_)
   | ((first | (apply aT_; assumption) | (apply aS_; assumption) | (apply a8_; assumption) | (apply a9_; assumption)); intro hb; try simp only [hb])
   | ((first | (apply aF_; assumption) | (apply aE_; assumption) | (apply aO_; assumption) | (apply aN_; assumption)); intro hb; try simp only [hb])
   | ((first | apply az_ | apply aC_ | apply ak_ | apply an_) <;> intro hb <;> (try simp only [hb]) <;> (first | have hp := aV_ hb | have hp := aW_ hb | have hp := aX_ hb | have hp := aU_ hb | skip)))
 by_cases k4 : x.Kind = 4
 ·simp (disch := omega) only [k4, Int.reduceEq, go_sem, Nat.reduceEqDiff, Int.reduceNeg, ↓reduceIte]
  repeat' (first
   | exact af_ _ _
   | (refine ae_ ?_; simp [bi_, *]; done)
   | simp (disch := omega) only [go_sem, Nat.reduceEqDiff, ↓reduceIte]
   | (refine aa_.call (eV_ _ _) ?_)
   | (refine aa_.q (eV_ _ _) ?_)
   | (refine aa_.call (gN_ x.Value rfl) ?_)
   | (refine aa_.q (gN_ x.Value rfl) ?_)
   | ((first | (apply aT_; assumption) | (apply aS_; assumption) | (apply a8_; assumption) | (apply a9_; assumption)); intro hb; try simp only [hb])
   | ((first | (apply aF_; assumption) | (apply aE_; assumption) | (apply aO_; assumption) | (apply aN_; assumption)); intro hb; try simp only [hb])
   | ((first | apply az_ | apply aC_ | apply ak_ | apply an_) <;> intro hb <;> (try simp only [hb]) <;> (first | have hp := aV_ hb | have hp := aW_ hb | have hp := aX_ hb | have hp := aU_ hb | skip)))
 by_cases k5 : x.Kind = 5
 ·simp (disch := omega) only [k5, Int.reduceEq, go_sem, Nat.reduceEqDiff, Int.reduceNeg, ↓reduceIte]
  repeat' (first
   | exact af_ _ _
   | (refine ae_ ?_; simp [bi_, *]; done)
   | simp (disch := omega) only [go_sem, Nat.reduceEqDiff, Int.reduceNeg, ↓reduceIte]
   | (refine aa_.call (fT_ _ _) ?_)
   | (refine aa_.q (fT_ _ _) ?_)
   | ((first | (apply aT_; assumption) | (apply aS_; assumption) | (apply a8_; assumption) | (apply a9_; assumption)); intro hb; try simp only [hb])
   | ((first | (apply aF_; assumption) | (apply aE_; assumption) | (apply aO_; assumption) | (apply aN_; assumption)); intro hb; try simp only [hb])
   | ((first | apply az_ | apply aC_ | apply ak_ | apply an_) <;> intro hb <;> (try simp only [hb]) <;> (first | have hp := aV_ hb | have hp := aW_ hb | have hp := aX_ hb | have hp := aU_ hb | skip)))
 by_cases k6 : x.Kind = 6
 ·simp (disch := omega) only [k6, Int.reduceEq, go_sem, Nat.reduceEqDiff, Int.reduceNeg, ↓reduceIte]
  repeat' (first
   | exact af_ _ _
   | (refine ae_ ?_; simp [bi_, *]; done)
   | simp (disch := omega) only [go_sem, Nat.reduceEqDiff, ↓reduceIte]
   | (refine aa_.call (ih_ _ hv _) ?_)
   | (refine aa_.q (ih_ _ hv _) ?_)
   | ((first | (apply aT_; assumption) | (apply aS_; assumption) | (apply a8_; assumption) | (apply a9_; assumption)); intro hb; try simp only [hb])
   | ((first | (apply aF_; assumption) | (apply aE_; assumption) | (apply aO_; assumption) | (apply aN_; assumption)); intro hb; try simp only [hb])
   | ((first | apply az_ | apply aC_ | apply ak_ | apply an_) <;> intro hb <;> (try simp only [hb]) <;> (first | have hp := aV_ hb | have hp := aW_ hb | have hp := aX_ hb | have hp := aU_ hb | skip)))
 by_cases k2 : x.Kind = 2
 ·simp (disch := omega) only [k2, Int.reduceEq, go_sem, Nat.reduceEqDiff, Int.reduceNeg, ↓reduceIte]
  repeat' (first
   | exact af_ _ _
   | (refine ae_ ?_; simp [bi_, *]; done)
   | simp (disch := omega) only [go_sem, Nat.reduceEqDiff, ↓reduceIte]
   | (refine aa_.call (gN_ x.Value rfl) ?_)
   | (refine aa_.q (gN_ x.Value rfl) ?_)
   | ((first | (apply aT_; assumption) | (apply aS_; assumption) | (apply a8_; assumption) | (apply a9_; assumption)); intro hb; try simp only [hb])
   | ((first | (apply aF_; assumption) | (apply aE_; assumption) | (apply aO_; assumption) | (apply aN_; assumption)); intro hb; try simp only [hb])
   | ((first | apply az_ | apply aC_ | apply ak_ | apply an_) <;> intro hb <;> (try simp only [hb]) <;> (first | have hp := aV_ hb | have hp := aW_ hb | have hp := aX_ hb | have hp := aU_ hb | skip)))
 simp (disch := omega) only [k1, k4, k5, k6, k2, go_sem, Nat.reduceEqDiff, Int.reduceNeg, ↓reduceIte]
 repeat' (first
  | exact af_ _ _
  | (refine ae_ ?_; simp [bi_, *]; done)
  | simp (disch := omega) only [go_sem, Nat.reduceEqDiff, ↓reduceIte]
  | ((first | (apply aT_; assumption) | (apply aS_; assumption) | (apply a8_; assumption) | (apply a9_; assumption)); intro hb; try simp only [hb])
  | ((first | (apply aF_; assumption) | (apply aE_; assumption) | (apply aO_; assumption) | (apply aN_; assumption)); intro hb; try simp only [hb])
  | ((first | apply az_ | apply aC_ | apply ak_ | apply an_) <;> intro hb <;> (try simp only [hb]) <;> (first | have hp := aV_ hb | have hp := aW_ hb | have hp := aX_ hb | have hp := aU_ hb | skip)))
theorem en_ (s : ByteArray) (hs : s.size ≤ 1048576) (h : List Row) : aa_ Tryz.prog 221 [.val (.string s)] h (.val (.bool (b1_ s.data.toList))) := by
 have := hV_ s.data.toList (by rw [e5_]; omega) h
 rwa [eA_] at this
theorem fq_ (s : ByteArray) (hs : s.size ≤ 1048576) (h : List Row) : aa_ Tryz.prog 222 [.val (.string s)] h (.val (.int .i64 (bU_ s.data.toList))) := by
 have := hq_ s.data.toList (by rw [e5_]; omega) h
 rwa [eA_] at this
theorem nl_ (q : Bool) (a b : ByteArray) : bf_ .lss q (.val (.string a)) (.val (.string b)) = some (.val (.bool (Op.bytesLess a.data.toList b.data.toList))) := by
 rw [p7_, ec_, ec_]
theorem yt_ (q : Bool) (a b : ByteArray) : bf_ .gtr q (.val (.string a)) (.val (.string b)) = some (.val (.bool (Op.bytesLess b.data.toList a.data.toList))) := by
 have e : bf_ .gtr q (.val (.string a)) (.val (.string b)) = some (.val (.bool (!(Op.bytesLess a.toList b.toList || a.toList == b.toList)))) := rfl
 rw [e, ec_, ec_]
 have : (!(Op.bytesLess a.data.toList b.data.toList || a.data.toList == b.data.toList)) = Op.bytesLess b.data.toList a.data.toList := by
  by_cases h1 : Op.bytesLess a.data.toList b.data.toList = true
  ·rw [h1, mq_ _ _ h1]; rfl
  ·by_cases h2 : a.data.toList = b.data.toList
   ·rw [h2, eS_]; simp
   ·have h3 : (a.data.toList == b.data.toList) = false := by simpa using h2
    have h1' : Op.bytesLess a.data.toList b.data.toList = false := by simpa using h1
    rw [h1', h3]
    by_cases h4 : Op.bytesLess b.data.toList a.data.toList = true
    ·rw [h4]; rfl
    ·exact absurd (hN_ _ _ h1' (by simpa using h4)) h2
 rw [this]
def Cj_ : LC :=
 .seq (.ops [.s 2 (.mov (.const (.bool false)))]) (.seq (.ops [.m 3 0, .m 4 0, .bb 5 .neq false 3 4, .m 2 5]) .ret)
def xp_ : LF := ⟨1, 6, Cj_, [.tmp 2]⟩
theorem Ck_ : at_ Tryz.prog Tryz.f172 xp_ := ai_
theorem gJ_ (s : ByteArray)  (h : List Row) : aa_ Tryz.prog 172 [.val (.string s)] h (.val (.bool false)) := by
 refine aj_ mixed Tryz.func172 Ck_ rfl rfl ?_ h
 simp (disch := omega) only [xp_, Cj_, go_sem, Nat.reduceEqDiff, reduceCtorEq, ↓reduceIte]
 repeat' (first
  | exact af_ _ _
  | simp (disch := omega) only [go_sem, Nat.reduceEqDiff, Nat.reduceAdd, Nat.reduceLeDiff, reduceCtorEq, Int.reduceLT, Int.reduceLE, Int.reduceNeg, Int.reduceSub, Int.reduceAdd, Int.reduceToNat, ↓reduceIte]
  | ((first | (apply aF_; assumption) | (apply aE_; assumption) | (apply aO_; assumption) | (apply aN_; assumption)); intro hb; try simp only [hb])
  | ((first | apply ak_ | apply an_) <;> intro hb <;> (try simp only [hb]) <;> (first | have hp := aV_ hb | have hp := aW_ hb | have hp := aX_ hb | have hp := aU_ hb | skip)))
def Ba_ : LC :=
 .seq (.ops [.s 2 (.mov (.const (.bool false)))]) (.seq (.ops [.m 3 0, .m 4 0, .bb 5 .neq false 3 4, .m 2 5]) .ret)
def wr_ : LF := ⟨1, 6, Ba_, [.tmp 2]⟩
theorem CP_ : at_ Tryz.prog Tryz.f225 wr_ := ai_
theorem hf_ (s : Int)  (h : List Row) : aa_ Tryz.prog 225 [.val (.int .i64 s)] h (.val (.bool false)) := by
 refine aj_ mixed Tryz.func225 CP_ rfl rfl ?_ h
 simp (disch := omega) only [wr_, Ba_, go_sem, Nat.reduceEqDiff, reduceCtorEq, ↓reduceIte]
 repeat' (first
  | exact af_ _ _
  | simp (disch := omega) only [go_sem, Nat.reduceEqDiff, Nat.reduceAdd, Nat.reduceLeDiff, reduceCtorEq, Int.reduceLT, Int.reduceLE, Int.reduceNeg, Int.reduceSub, Int.reduceAdd, Int.reduceToNat, ↓reduceIte]
  | ((first | (apply aF_; assumption) | (apply aE_; assumption) | (apply aO_; assumption) | (apply aN_; assumption)); intro hb; try simp only [hb])
  | ((first | apply ak_ | apply an_) <;> intro hb <;> (try simp only [hb]) <;> (first | have hp := aV_ hb | have hp := aW_ hb | have hp := aX_ hb | have hp := aU_ hb | skip)))
def zR_ : LC :=
 .seq (.ops [.ki 4 0]) (.seq (.ops [.m 7 0, .c1 8 225 7, .m 5 8]) (.seq (.ops [.m 9 1, .c1 10 225 9, .m 6 10]) (.seq (.seq (.ops [.m 11 5]) (.cond (.tmp 11) (.seq (.seq (.ops [.m 12 6]) (.cond (.tmp 12) (.seq (.ops [.ki 4
 0]) .ret) .skip)) (.seq (.ops [.s 4 (.mov (.const (.int .i64 (-1))))]) .ret)) .skip)) (.seq (.seq (.ops [.m 13 6]) (.cond (.tmp 13) (.seq (.ops [.ki 4 1]) .ret) .skip)) (.seq (.seq (.ops [.m 14 0, .m 15 1, .bb 16 .lss
 false 14 15]) (.cond (.tmp 16) (.seq (.ops [.s 4 (.mov (.const (.int .i64 (-1))))]) .ret) .skip)) (.seq (.seq (.ops [.m 17 0, .m 18 1, .bb 19 .gtr false 17 18]) (.cond (.tmp 19) (.seq (.ops [.ki 4 1]) .ret) .skip)) (.seq
 (.ops [.ki 4 0]) .ret)))))))
def x2_ : LF := ⟨2, 20, zR_, [.tmp 4]⟩
theorem Ad_ : at_ Tryz.prog Tryz.f204 x2_ := ai_
theorem gC_ (a b : Int)  (h : List Row) : aa_ Tryz.prog 204 [.val (.int .i64 a), .val (.int .i64 b)] h (.val (.int .i64 (k7_ a b))) := by
 refine aj_ mixed Tryz.func204 Ad_ rfl rfl ?_ h
 simp (disch := omega) only [x2_, zR_, go_sem, reduceCtorEq, Int.reduceNeg, ↓reduceIte]
 repeat' (first
  | exact af_ _ _
  | (refine aG_ ?_; simp only [decide_eq_true_eq, decide_eq_false_iff_not] at *; unfold k7_; (repeat' split) <;> omega)
  | simp (disch := omega) only [go_sem, Nat.reduceEqDiff, reduceCtorEq, Int.reduceNeg, ↓reduceIte]
  | (refine aa_.call (hf_ _ _) ?_)
  | (refine aa_.q (hf_ _ _) ?_)
  | ((first | (apply aF_; assumption) | (apply aE_; assumption) | (apply aO_; assumption) | (apply aN_; assumption)); intro hb; try simp only [hb])
  | ((first | apply ak_ | apply an_) <;> intro hb <;> (try simp only [hb]) <;> (first | have hp := aV_ hb | have hp := aW_ hb | have hp := aX_ hb | have hp := aU_ hb | skip)))
def De_ : LC :=
 .seq (.ops [.ki 4 0]) (.seq (.ops [.m 7 0, .c1 8 172 7, .m 5 8]) (.seq (.ops [.m 9 1, .c1 10 172 9, .m 6 10]) (.seq (.seq (.ops [.m 11 5]) (.cond (.tmp 11) (.seq (.seq (.ops [.m 12 6]) (.cond (.tmp 12) (.seq (.ops [.ki 4
 0]) .ret) .skip)) (.seq (.ops [.s 4 (.mov (.const (.int .i64 (-1))))]) .ret)) .skip)) (.seq (.seq (.ops [.m 13 6]) (.cond (.tmp 13) (.seq (.ops [.ki 4 1]) .ret) .skip)) (.seq (.seq (.ops [.m 14 0, .m 15 1, .bb 16 .lss
 false 14 15]) (.cond (.tmp 16) (.seq (.ops [.s 4 (.mov (.const (.int .i64 (-1))))]) .ret) .skip)) (.seq (.seq (.ops [.m 17 0, .m 18 1, .bb 19 .gtr false 17 18]) (.cond (.tmp 19) (.seq (.ops [.ki 4 1]) .ret) .skip)) (.seq
 (.ops [.ki 4 0]) .ret)))))))
def xC_ : LF := ⟨2, 20, De_, [.tmp 4]⟩
theorem A7_ : at_ Tryz.prog Tryz.f137 xC_ := ai_
theorem es_ (a b : ByteArray)  (h : List Row) : aa_ Tryz.prog 137 [.val (.string a), .val (.string b)] h (.val (.int .i64 (i2_ a.data.toList b.data.toList))) := by
 refine aj_ mixed Tryz.func137 A7_ rfl rfl ?_ h
 simp (disch := omega) only [xC_, De_, go_sem, reduceCtorEq, Int.reduceNeg, ↓reduceIte]
 repeat' (first
  | exact af_ _ _
  | (refine aG_ ?_; simp only [i2_, *]; first | rfl | (simp; done))
  | simp (disch := omega) only [nl_, yt_, go_sem, Nat.reduceEqDiff, reduceCtorEq, Int.reduceNeg, ↓reduceIte]
  | (refine aa_.call (gJ_ _ _) ?_)
  | (refine aa_.q (gJ_ _ _) ?_)
  | ((first | (apply aT_; assumption) | (apply aS_; assumption) | (apply a8_; assumption) | (apply a9_; assumption)); intro hb; try simp only [hb])
  | ((first | (apply aF_; assumption) | (apply aE_; assumption) | (apply aO_; assumption) | (apply aN_; assumption)); intro hb; try simp only [hb])
  | ((first | apply az_ | apply aC_ | apply ak_ | apply an_) <;> intro hb <;> (try simp only [hb]) <;> (first | have hp := aV_ hb | have hp := aW_ hb | have hp := aX_ hb | have hp := aU_ hb | skip)))
def zG_ : LC :=
 .seq (.ops [.ki 4 0]) (.seq (.ops [.m 7 0, .c1 8 203 7, .m 9 1, .c1 10 203 9, .m 5 8, .m 6 10]) (.seq (.block 0 (.seq (.ops [.m 12 5, .m 13 12, .g 14 13 true (.mov (.tmp 6)), .pf 15 13 14, .m 11 15]) (.cond (.tmp 11)
 (.seq (.ops [.m 16 0, .c1 17 205 16, .m 18 1, .c1 19 205 18, .c2 20 204 17 19, .m 4 20]) .ret) (.seq (.ops [.m 22 5, .m 21 22]) (.cond (.tmp 21) (.seq (.ops [.s 4 (.mov (.const (.int .i64 (-1))))]) .ret) (.seq (.ops [.m
 24 6, .m 23 24]) (.cond (.tmp 23) (.seq (.ops [.ki 4 1]) .ret) .skip))))))) (.seq (.ops [.m 25 0, .m 26 1, .c2 27 137 25 26, .m 4 27]) .ret)))
def wG_ : LF := ⟨2, 28, zG_, [.tmp 4]⟩
theorem zH_ : at_ Tryz.prog Tryz.f174 wG_ := ai_
theorem eU_ (a b : ByteArray) (ha : a.size ≤ 1048576) (hbb : b.size ≤ 1048576) (h : List Row) : aa_ Tryz.prog 174 [.val (.string a), .val (.string b)] h (.val (.int .i64 (dj_ a.data.toList b.data.toList))) := by
 refine aj_ mixed Tryz.func174 zH_ rfl rfl ?_ h
 simp (disch := omega) only [wG_, zG_, go_sem, reduceCtorEq, Int.reduceNeg, ↓reduceIte]
 repeat' (first
  | exact af_ _ _
  | (refine aG_ ?_; simp only [dj_, *]; first | rfl | (simp; done))
  | simp (disch := omega) only [go_sem, Nat.reduceEqDiff, reduceCtorEq, Int.reduceNeg, ↓reduceIte]
  | (refine aa_.call (dL_ _ ha _) ?_)
  | (refine aa_.q (dL_ _ ha _) ?_)
  | (refine aa_.call (dL_ _ hbb _) ?_)
  | (refine aa_.q (dL_ _ hbb _) ?_)
  | (refine aa_.call (er_ _ ha _) ?_)
  | (refine aa_.q (er_ _ ha _) ?_)
  | (refine aa_.call (er_ _ hbb _) ?_)
  | (refine aa_.q (er_ _ hbb _) ?_)
  | (refine aa_.call (gC_ _ _ _) ?_)
  | (refine aa_.q (gC_ _ _ _) ?_)
  | (refine aa_.call (es_ _ _ _) ?_)
  | (refine aa_.q (es_ _ _ _) ?_)
  | ((first | (apply aT_; assumption) | (apply aS_; assumption) | (apply a8_; assumption) | (apply a9_; assumption)); intro hb; try simp only [hb])
  | ((first | (apply aF_; assumption) | (apply aE_; assumption) | (apply aO_; assumption) | (apply aN_; assumption)); intro hb; try simp only [hb])
  | ((first | apply az_ | apply aC_ | apply ak_ | apply an_) <;> intro hb <;> (try simp only [hb]) <;> (first | have hp := aV_ hb | have hp := aW_ hb | have hp := aX_ hb | have hp := aU_ hb | skip)))
def z3_ : LC :=
 .seq (.ops [.s 4 (.mov (.const (.bool false)))]) (.seq (.ops [.m 7 0, .c1 8 221 7, .m 5 8]) (.seq (.ops [.m 9 1, .c1 10 221 9, .m 6 10]) (.seq (.seq (.ops [.m 11 5, .m 12 11, .g 13 12 true (.mov (.tmp 6)), .pf 14 12 13])
 (.cond (.tmp 14) (.seq (.ops [.m 15 0, .c1 16 222 15, .m 17 1, .c1 18 222 17, .bb 19 .lss false 16 18, .m 4 19]) .ret) .skip)) (.seq (.seq (.ops [.m 20 5, .m 21 6, .bb 22 .neq true 20 21]) (.cond (.tmp 22) (.seq (.ops
 [.m 23 5, .m 4 23]) .ret) .skip)) (.seq (.ops [.m 24 0, .m 25 1, .bb 26 .lss false 24 25, .m 4 26]) .ret)))))
def xq_ : LF := ⟨2, 27, z3_, [.tmp 4]⟩
theorem Bk_ : at_ Tryz.prog Tryz.f194 xq_ := ai_
theorem fz_ (a b : ByteArray) (ha : a.size ≤ 1048576) (hbb : b.size ≤ 1048576) (h : List Row) : aa_ Tryz.prog 194 [.val (.string a), .val (.string b)] h (.val (.bool (before a.data.toList b.data.toList))) := by
 refine aj_ mixed Tryz.func194 Bk_ rfl rfl ?_ h
 simp (disch := omega) only [xq_, z3_, go_sem, reduceCtorEq, ↓reduceIte]
 repeat' (first
  | exact af_ _ _
  | (refine ae_ ?_; simp only [before, *]; first | rfl | (simp; done))
  | (refine ae_ ?_; simp_all [before]; done)
  | simp (disch := omega) only [nl_, pG_, go_sem, Nat.reduceEqDiff, reduceCtorEq, ↓reduceIte]
  | (refine aa_.call (en_ _ ha _) ?_)
  | (refine aa_.q (en_ _ ha _) ?_)
  | (refine aa_.call (en_ _ hbb _) ?_)
  | (refine aa_.q (en_ _ hbb _) ?_)
  | (refine aa_.call (fq_ _ ha _) ?_)
  | (refine aa_.q (fq_ _ ha _) ?_)
  | (refine aa_.call (fq_ _ hbb _) ?_)
  | (refine aa_.q (fq_ _ hbb _) ?_)
  | ((first | (apply aT_; assumption) | (apply aS_; assumption) | (apply a8_; assumption) | (apply a9_; assumption)); intro hb; try simp only [hb])
  | ((first | (apply aF_; assumption) | (apply aE_; assumption) | (apply aO_; assumption) | (apply aN_; assumption)); intro hb; try simp only [hb])
  | ((first | apply az_ | apply aC_ | apply ak_ | apply an_) <;> intro hb <;> (try simp only [hb]) <;> (first | have hp := aV_ hb | have hp := aW_ hb | have hp := aX_ hb | have hp := aU_ hb | skip)))
def Bm_ : LC :=
 .seq (.ops [.s 4 (.mov (.const (.bool false)))]) (.seq (.ops [.m 5 0, .m 6 1, .c2 7 194 5 6, .m 4 7]) .ret)
def xw_ : LF := ⟨2, 8, Bm_, [.tmp 4]⟩
theorem Ct_ : at_ Tryz.prog Tryz.f200 xw_ := ai_
theorem dC_ (a b : ByteArray) (ha : a.size ≤ 1048576) (hbb : b.size ≤ 1048576) (h : List Row) : aa_ Tryz.prog 200 [.val (.string a), .val (.string b)] h (.val (.bool (before a.data.toList b.data.toList))) := by
 refine aj_ mixed Tryz.func200 Ct_ rfl rfl ?_ h
 simp (disch := omega) only [xw_, Bm_, go_sem, Nat.reduceEqDiff, reduceCtorEq, ↓reduceIte]
 repeat' (first
  | exact af_ _ _
  | simp (disch := omega) only [go_sem, ↓reduceIte]
  | (refine aa_.call (fz_ _ _ ha hbb _) ?_)
  | (refine aa_.q (fz_ _ _ ha hbb _) ?_)
  | ((first | (apply aF_; assumption) | (apply aE_; assumption) | (apply aO_; assumption) | (apply aN_; assumption)); intro hb; try simp only [hb])
  | ((first | apply ak_ | apply an_) <;> intro hb <;> (try simp only [hb]) <;> (first | have hp := aV_ hb | have hp := aW_ hb | have hp := aX_ hb | have hp := aU_ hb | skip)))
def gn_ (c : ByteArray → ByteArray → Int) : List ByteArray → List ByteArray → Int
 | [], [] => 0
 | [], _ :: _ => -1
 | _ :: _, [] => 1
 | x :: xs, y :: ys => if c x y = 0 then gn_ c xs ys else c x y
theorem s4_ (c : ByteArray → ByteArray → Int) (xs ys : List ByteArray) (k : Nat) (h1 : k < xs.length) (h2 : k < ys.length) : gn_ c (xs.drop k) (ys.drop k) = if c xs[k] ys[k] = 0 then gn_ c (xs.drop (k + 1)) (ys.drop (k + 1)) else c xs[k] ys[k] := by
 rw [drop_eq_getElem_cons h1, drop_eq_getElem_cons h2]; rfl
theorem s0_ (c : ByteArray → ByteArray → Int) (xs ys : List ByteArray) (k : Nat) (h1 : k < xs.length) (h2 : ys.length ≤ k) : gn_ c (xs.drop k) (ys.drop k) = 1 := by
 rw [drop_eq_getElem_cons h1, drop_eq_nil_of_le h2]; rfl
theorem ra_ (c : ByteArray → ByteArray → Int) (xs ys : List ByteArray) (k : Nat) (h1 : xs.length ≤ k) (h2 : k < ys.length) : gn_ c (xs.drop k) (ys.drop k) = -1 := by
 rw [drop_eq_nil_of_le h1, drop_eq_getElem_cons h2]; rfl
theorem tZ_ (c : ByteArray → ByteArray → Int) (xs ys : List ByteArray) (k : Nat) (h1 : xs.length ≤ k) (h2 : ys.length ≤ k) : gn_ c (xs.drop k) (ys.drop k) = 0 := by
 rw [drop_eq_nil_of_le h1, drop_eq_nil_of_le h2]; rfl
def Cc_ : LC :=
 .seq (.ops [.ki 6 0]) (.seq (.seq (.ops [.m 11 0, .ll 12 11, .ki 13 0]) (.block 0 (.loop (.seq (.ops [.bb 14 .lss false 13 12]) (.seq (.cond (.tmp 14) .skip (.exit 0)) (.seq (.block 1 (.seq (.ops [.m 15 13, .ia 16 1 11
 13, .ln 17 16, .m 7 15, .m 8 17]) (.seq (.seq (.ops [.m 18 7, .m 19 1, .ll 20 19, .bb 21 .geq false 18 20]) (.cond (.tmp 21) (.seq (.ops [.ki 6 1]) .ret) .skip)) (.seq (.ops [.m 22 1, .m 23 7, .ia 24 1 22 23, .ln 25 24,
 .m 9 25]) (.seq (.ops [.m 26 2, .m 27 8, .m 28 9, .s 29 (.callv (.tmp 26) [.tmp 27, .tmp 28]), .m 10 29]) (.seq (.ops [.m 30 10, .bk 31 .neq false 30 0]) (.cond (.tmp 31) (.seq (.ops [.m 32 10, .m 6 32]) .ret)
 .skip))))))) (.ops [.bk 33 .add false 13 1, .m 13 33]))))))) (.seq (.seq (.ops [.m 34 0, .ll 35 34, .m 36 1, .ll 37 36, .bb 38 .lss false 35 37]) (.cond (.tmp 38) (.seq (.ops [.s 6 (.mov (.const (.int .i64 (-1))))])
 .ret) .skip)) (.seq (.ops [.ki 6 0]) .ret)))
def xe_ : LF := ⟨3, 39, Cc_, [.tmp 6]⟩
theorem Cd_ : at_ Tryz.prog Tryz.f173 xe_ := ai_
theorem eu_ (xs ys : List ByteArray) (c : ByteArray → ByteArray → Int) (g : Nat) (hx : xs.length ≤ 1048576) (hy : ys.length ≤ 1048576) (hc : cq_ Tryz.prog g = true) (hp : ∀ x ∈ xs, ∀ y ∈ ys, ∀ h, aa_ Tryz.prog g [.val (.string x), .val (.string y)] h (.val (.int .i64 (c x y)))) (h : List Row) :
 aa_ Tryz.prog 173 [.list 0 1 (xs.map am_), .list 0 1 (ys.map am_), .fn g [] []] h (.val (.int .i64 (gn_ c xs ys))) := by
 refine aj_ mixed Tryz.func173 Cd_ rfl rfl ?_ h
 simp (disch := omega) only [xe_, Cc_, go_sem, reduceCtorEq, Int.reduceNeg, ↓reduceIte]
 refine aL_ (fun n t h => ∃ k : Nat, t 0 = .list 0 1 (xs.map am_) ∧ t 1 = .list 0 1 (ys.map am_) ∧ t 2 = .fn g [] [] ∧ t 11 = .list 0 1 (xs.map am_) ∧ t 12 = .val (.int .i64 xs.length) ∧ t 13 = .val (.int .i64 k) ∧ n = xs.length - k ∧ k ≤ xs.length ∧ k ≤ ys.length ∧ gn_ c xs ys = gn_ c (xs.drop k) (ys.drop k)) xs.length ?_ ?_
 ·exact ⟨0, rfl, rfl, rfl, rfl, rfl, rfl, rfl, Nat.zero_le _, Nat.zero_le _, rfl⟩
 ·rintro J hJ n t h ⟨k, t0, t1, t2, t11, t12, t13, rfl, hk, hk2, hS⟩
  by_cases hlt : k < xs.length
  ·by_cases hlt2 : k < ys.length
   ·have hge : ¬ ((ys.length : Int) ≤ k) := by omega
    rw [s4_ c xs ys k hlt hlt2] at hS
    simp (disch := omega) only [t1, t2, t11, t12, t13, hlt, hge, hc, am_, go_sem, Nat.reduceEqDiff, Int.reduceNeg, ↓reduceIte]
    refine aa_.call (hp xs[k] (getElem_mem hlt) ys[k] (getElem_mem hlt2) _) ?_
    by_cases e : c xs[k] ys[k] = 0
    ·simp (disch := omega) only [t13, e, go_sem, Nat.reduceEqDiff, Int.reduceNeg, ↓reduceIte]
     exact ⟨xs.length - (k + 1), by omega, hJ _ _ _ ⟨k + 1, by simp [upd, t0], by simp [upd, t1], by simp [upd, t2], by simp [upd, t11], by simp [upd, t12], by simp [upd], rfl, by omega, by omega, by rw [hS, if_pos e]⟩⟩
    ·simp (disch := omega) only [e, go_sem, Nat.reduceEqDiff, Int.reduceNeg, ↓reduceIte]
     exact aG_ (by rw [hS, if_neg e])
   ·have hge : ((ys.length : Int) ≤ k) := by omega
    simp (disch := omega) only [t1, t11, t12, t13, hlt, hge, am_, go_sem, Nat.reduceEqDiff, Int.reduceNeg, ↓reduceIte]
    exact aG_ (by rw [hS, s0_ c xs ys k hlt (by omega)])
  ·by_cases hlt2 : k < ys.length
   ·have hl : (xs.length : Int) < ys.length := by omega
    simp (disch := omega) only [t0, t1, t12, t13, hlt, hl, go_sem, Nat.reduceEqDiff, reduceCtorEq, Int.reduceNeg, ↓reduceIte]
    exact aG_ (by rw [hS, ra_ c xs ys k (by omega) hlt2])
   ·have hl : ¬ ((xs.length : Int) < ys.length) := by omega
    simp (disch := omega) only [t0, t1, t12, t13, hlt, hl, go_sem, Nat.reduceEqDiff, reduceCtorEq, Int.reduceNeg, ↓reduceIte]
    exact aG_ (by rw [hS, tZ_ c xs ys k (by omega) (by omega)])
theorem kg_ : ∀ xs ys : List ByteArray, gn_ (fun a b => dj_ a.data.toList b.data.toList) xs ys = fA_ (bss xs) (bss ys)
 | [], [] => rfl
 | [], _ :: _ => rfl
 | _ :: _, [] => rfl
 | x :: xs, y :: ys => by simp only [gn_, bss, map_cons, fA_]; rw [kg_ xs ys]
theorem eQ_ {xs : List ByteArray} {b : Nat} (h : ao_ ByteArray.size xs ≤ b) {s : ByteArray} (hs : s ∈ xs) : s.size ≤ b := by
 have := bD_ (f := ByteArray.size) hs; omega
def Bf_ : LC :=
 .seq (.ops [.ki 4 0]) (.seq (.ops [.m 5 0, .m 6 1, .s 7 (.call 173 [.tmp 5, .tmp 6, .func 174]), .m 4 7]) .ret)
def wE_ : LF := ⟨2, 8, Bf_, [.tmp 4]⟩
theorem Dr_ : at_ Tryz.prog Tryz.f138 wE_ := ai_
theorem eH_ (a b : List ByteArray) (ha : ao_ ByteArray.size a ≤ 1048576) (hb : ao_ ByteArray.size b ≤ 1048576) (h : List Row) : aa_ Tryz.prog 138 [.list 0 1 (a.map am_), .list 0 1 (b.map am_)] h (.val (.int .i64 (fA_ (bss a) (bss b)))) := by
 refine aj_ mixed Tryz.func138 Dr_ rfl rfl ?_ h
 simp (disch := omega) only [wE_, Bf_, go_sem, Nat.reduceEqDiff, reduceCtorEq, ↓reduceIte]
 repeat' (first
  | exact af_ _ _
  | exact aG_ (kg_ a b)
  | simp (disch := omega) only [go_sem, ↓reduceIte]
  | (refine aa_.call (eu_ a b (fun a b => dj_ a.data.toList b.data.toList) 174 (ax_ ha) (ax_ hb) (by kernel_rfl) (fun x hx y hy h => eU_ x y (eQ_ ha hx) (eQ_ hb hy) h) _) ?_)
  | (refine aa_.q (eu_ a b (fun a b => dj_ a.data.toList b.data.toList) 174 (ax_ ha) (ax_ hb) (by kernel_rfl) (fun x hx y hy h => eU_ x y (eQ_ ha hx) (eQ_ hb hy) h) _) ?_)
  | ((first | (apply aF_; assumption) | (apply aE_; assumption) | (apply aO_; assumption) | (apply aN_; assumption)); intro hb; try simp only [hb])
  | ((first | apply ak_ | apply an_) <;> intro hb <;> (try simp only [hb]) <;> (first | have hp := aV_ hb | have hp := aW_ hb | have hp := aX_ hb | have hp := aU_ hb | skip)))
def orL : List Int → Int
 | [] => 0
 | x :: xs => if x = 0 then orL xs else x
theorem uO_ (xs : List Int) (k : Nat) (h : k < xs.length) : orL (xs.drop k) = if xs[k] = 0 then orL (xs.drop (k + 1)) else xs[k] := by
 rw [drop_eq_getElem_cons h]; rfl
theorem yD_ (xs : List Int) (k : Nat) (h : xs.length ≤ k) : orL (xs.drop k) = 0 := by
 rw [drop_eq_nil_of_le h]; rfl
def Di_ : LC :=
 .seq (.ops [.ki 2 0]) (.seq (.ops [.ki 3 0]) (.seq (.seq (.ops [.m 6 0, .ll 7 6, .ki 8 0]) (.block 0 (.loop (.seq (.ops [.bb 9 .lss false 8 7]) (.seq (.cond (.tmp 9) .skip (.exit 0)) (.seq (.block 1 (.seq (.ops [.ia 10 1
 6 8, .ln 11 10, .m 5 11]) (.seq (.ops [.m 12 5, .m 13 3, .bb 14 .neq false 12 13]) (.cond (.tmp 14) (.seq (.ops [.m 15 5, .m 2 15]) .ret) .skip)))) (.ops [.bk 16 .add false 8 1, .m 8 16]))))))) (.seq (.ops [.m 17 3, .m 2
 17]) .ret)))
def wJ_ : LF := ⟨1, 18, Di_, [.tmp 2]⟩
theorem CT_ : at_ Tryz.prog Tryz.f136 wJ_ := ai_
theorem oA_ (xs : List Int) (hx : xs.length ≤ 1048576) (h : List Row) : aa_ Tryz.prog 136 [.list 0 1 (xs.map fun x => [.val (.int .i64 x)])] h (.val (.int .i64 (orL xs))) := by
 refine aj_ mixed Tryz.func136 CT_ rfl rfl ?_ h
 simp (disch := omega) only [wJ_, Di_, go_sem, reduceCtorEq, ↓reduceIte]
 refine aL_ (fun n t h => ∃ k : Nat, t 3 = .val (.int .i64 0) ∧ t 6 = .list 0 1 (xs.map fun x => [.val (.int .i64 x)]) ∧ t 7 = .val (.int .i64 xs.length) ∧ t 8 = .val (.int .i64 k) ∧ n = xs.length - k ∧ k ≤ xs.length ∧ orL xs = orL (xs.drop k)) xs.length ?_ ?_
 ·exact ⟨0, rfl, rfl, rfl, rfl, rfl, Nat.zero_le _, rfl⟩
 ·rintro J hJ n t h ⟨k, t3, t6, t7, t8, rfl, hk, hS⟩
  by_cases hlt : k < xs.length
  ·rw [uO_ xs k hlt] at hS
   by_cases e : xs[k] = 0
   ·simp (disch := omega) only [t3, t6, t7, t8, hlt, e, go_sem, Nat.reduceEqDiff, ↓reduceIte]
    exact ⟨xs.length - (k + 1), by omega, hJ _ _ _ ⟨k + 1, by simp [upd, t3], by simp [upd, t6], by simp [upd, t7], by simp [upd], rfl, by omega, by rw [hS, if_pos e]⟩⟩
   ·simp (disch := omega) only [t3, t6, t7, t8, hlt, e, go_sem, Nat.reduceEqDiff, ↓reduceIte]
    exact aG_ (by rw [hS, if_neg e])
  ·simp (disch := omega) only [t3, t7, t8, hlt, go_sem, Nat.reduceEqDiff, ↓reduceIte]
   exact aG_ (by rw [hS, yD_ _ _ (by omega)])
theorem rK_ (a b : Int) (h : List Row) : aa_ Tryz.prog 136 [.list 0 1 [[.val (.int .i64 a)], [.val (.int .i64 b)]]] h (.val (.int .i64 (if a = 0 then b else a))) := by
 have := oA_ [a, b] (by simp) h
 have e : orL [a, b] = if a = 0 then b else a := by
  simp only [orL]; split
  ·split
   ·omega
   ·rfl
  ·rfl
 rwa [e] at this
theorem sS_ (a b : Int) (E : Tag) (l : Nat) (H : List Row) (K : AV → List Row → Prop) (hl : H[l]? = some ⟨E, 1, [[.val (.int .i64 a)], [.val (.int .i64 b)]]⟩) (hk : K (.val (.int .i64 (if a = 0 then b else a))) H) : callSem Tryz.prog 136 [.own l 2] H K :=
 pO_ (rs := [.list 0 1 [[.val (.int .i64 a)], [.val (.int .i64 b)]]]) (fun h => rK_ a b h) (show a5_ H [.own l 2] _ from ⟨_, [], rfl, .inr ⟨2, [l], ⟨_, [[.val (.int .i64 a)], [.val (.int .i64 b)]], [], hl, rfl, by
  refine ⟨_, _, [], [], rfl, rfl, ⟨_, _, [], [], rfl, rfl, ⟨rfl, .inl rfl⟩, ⟨rfl, rfl⟩⟩, ⟨_, _, [], [], rfl, rfl, ⟨_, _, [], [], rfl, rfl, ⟨rfl, .inl rfl⟩, ⟨rfl, rfl⟩⟩, ⟨rfl, rfl⟩⟩⟩, rfl, rfl⟩⟩, rfl⟩) hk
def c89 : LC :=
 .seq (.ops [.ki 8 0]) (.seq (.ops [.m 9 0, .m 10 2, .c2 11 137 9 10, .m 12 1, .m 13 3, .c2 14 138 12 13, .s 15 (.buildSlice 3 1 (.int .i64 0) 2 [(0, .tmp 11), (1, .tmp 14)]), .c1 16 136 15, .m 8 16]) .ret)
def AF_ : LF := ⟨4, 17, c89, [.tmp 8]⟩
theorem Ed_ : at_ Tryz.prog Tryz.f89 AF_ := ai_
theorem dP_ (n : ByteArray) (s : List ByteArray) (o : ByteArray) (os : List ByteArray) (hs : ao_ ByteArray.size s ≤ 1048576) (hos : ao_ ByteArray.size os ≤ 1048576) (h : List Row) :
 aa_ Tryz.prog 89 [.val (.string n), .list 0 1 (s.map am_), .val (.string o), .list 0 1 (os.map am_)] h (.val (.int .i64 (gW_ n.data.toList (bss s) o.data.toList (bss os)))) := by
 refine aj_ mixed Tryz.func89 Ed_ rfl rfl ?_ h
 simp (disch := omega) only [AF_, c89, go_sem, Nat.reduceEqDiff, reduceCtorEq, ↓reduceIte]
 refine aa_.call (es_ _ _ _) ?_
 simp (disch := omega) only [go_sem, Nat.reduceEqDiff, ↓reduceIte]
 refine aa_.call (eH_ _ _ hs hos _) ?_
 simp (disch := omega) only [go_sem, Nat.reduceEqDiff, ↓reduceIte]
 refine sS_ _ _ _ _ _ _ rfl ?_
 simp (disch := omega) only [go_sem, ↓reduceIte]
 exact aG_ rfl
def dT_ (xs : List ByteArray) : ByteArray := xs.getLastD (txt [])
theorem gb_ (xs : List ByteArray) (h : xs.length - 1 < xs.length) : xs[xs.length - 1] = dT_ xs := by
 have hne : xs ≠ [] := by intro e; subst e; simp at h
 rw [← getLast_eq_getElem hne, dT_, getLastD_eq_getLast?, getLast?_eq_some_getLast hne]; rfl
def bW_ (xs : List ByteArray) : List ByteArray := xs.take (xs.length - 1)
def gl_ (xs : List ByteArray) : Bool := decide (0 < (xs.length : Int)) && (bg_ xs || (decide (dT_ xs = txt []) && bg_ (bW_ xs)))
def vT_ : LC :=
 .seq (.ops [.s 2 (.mov (.const (.bool false)))]) (.seq (.ops [.m 4 0, .ll 5 4, .m 3 5]) (.seq (.ops [.m 6 3, .bk 7 .gtr false 6 0, .m 8 7, .g 9 8 true (.mov (.tmp 0)), .g 10 8 true (.call 143 [.tmp 9]), .g 11 8 true
 (.mov (.tmp 10)), .g 12 11 false (.mov (.tmp 0)), .g 13 11 false (.mov (.tmp 3)), .g 14 11 false (.bin .sub false (.tmp 13) (.const (.int .i64 1))), .g 15 11 false (.indexAddr 1 (.tmp 12) (.tmp 14)), .g 16 11 false
 (.load none (.tmp 15)), .g 17 11 false (.bin .eql false (.tmp 16) (.const (.string ⟨#[]⟩))), .g 18 11 false (.mov (.tmp 17)), .g 19 18 true (.mov (.tmp 0)), .g 20 18 true (.mov (.tmp 3)), .g 21 18 true (.bin .sub false
 (.tmp 20) (.const (.int .i64 1))), .g 22 18 true (.sliceSl 1 (.tmp 19) none (some (.tmp 21))), .g 23 18 true (.call 143 [.tmp 22]), .g 24 11 false (.pick (.tmp 18) (.tmp 23) (.const (.bool false))), .g 25 8 true (.pick
 (.tmp 11) (.const (.bool true)) (.tmp 24)), .pf 26 8 25, .m 2 26]) .ret))
def sZ_ : LF := ⟨1, 27, vT_, [.tmp 2]⟩
theorem CU_ : at_ Tryz.prog Tryz.f142 sZ_ := ai_
theorem hy_ (xs : List ByteArray) (hx : xs.length ≤ 1048576) (h : List Row) : aa_ Tryz.prog 142 [.list 0 1 (xs.map am_)] h (.val (.bool (gl_ xs))) := by
 refine aj_ mixed Tryz.func142 CU_ rfl rfl ?_ h
 by_cases h0 : xs.length = 0
 ·have h0' : ((0 : Int) < xs.length) = False := eq_false (by omega)
  simp (disch := omega) only [sZ_, vT_, h0', go_sem, Nat.reduceEqDiff, reduceCtorEq, ↓reduceIte]
  exact ae_ (by simp [gl_, h0])
 ·have h0' : ((0 : Int) < xs.length) = True := eq_true (by omega)
  have hsub : ((xs.length : Int) - 1) = ((xs.length - 1 : Nat) : Int) := by omega
  have hlt : xs.length - 1 < xs.length := by omega
  have hfr : xs.take (xs.length - 1) = bW_ xs := rfl
  have hfl : (bW_ xs).length ≤ 1048576 := by rw [bW_, length_take]; omega
  have hw : IntKind.i64.wrap ((xs.length : Int) - 1) = ((xs.length - 1 : Nat) : Int) := by rw [ar_ (n := (xs.length : Int) - 1) (by omega) (by omega)]; omega
  simp (disch := omega) only [sZ_, vT_, h0', go_sem, Nat.reduceEqDiff, reduceCtorEq, ↓reduceIte]
  repeat' (first
   | exact af_ _ _
   | (refine ae_ ?_; simp only [gl_, *, Bool.true_and, Bool.and_false, Bool.false_and, Bool.true_or, Bool.false_or, decide_true, Bool.and_self, Bool.or_self]; done)
   | simp (disch := omega) only [hw, fb_, hfr, gb_, am_, go_sem, Nat.reduceEqDiff, reduceCtorEq, ↓reduceIte]
   | (refine aa_.call (cc_ _ hx _) ?_)
   | (refine aa_.q (cc_ _ hx _) ?_)
   | (refine aa_.call (cc_ _ hfl _) ?_)
   | (refine aa_.q (cc_ _ hfl _) ?_)
   | ((first | (apply aT_; assumption) | (apply aS_; assumption) | (apply a8_; assumption) | (apply a9_; assumption)); intro hb; try simp only [hb])
   | ((first | (apply aF_; assumption) | (apply aE_; assumption) | (apply aO_; assumption) | (apply aN_; assumption)); intro hb; try simp only [hb])
   | ((first | apply az_ | apply aC_ | apply ak_ | apply an_) <;> intro hb <;> (try simp only [hb]) <;> (first | have hp := aV_ hb | have hp := aW_ hb | have hp := aX_ hb | have hp := aU_ hb | skip)))
def bx_ (x : ab_) : Bool := bV_ x.Name && bi_ x && (if x.Kind = 5 then decide ((x.Subs.length : Int) ≤ 4) && gl_ x.Subs else bg_ x.Subs)
def c92 : LC :=
 .seq (.ops [.s 1 (.box 79 (.tmp 0)), .s 2 (.mov (.const (.bool false)))]) (.seq (.seq (.ops [.fa 3 1 1, .ln 4 3, .c1 5 140 4, .nt 6 5, .m 7 6, .g 8 7 false (.load (some 5) (.tmp 1)), .g 9 7 false (.call 141 [.tmp 8]), .g
 10 7 false (.un .not (.tmp 9)), .pt 11 7 10]) (.cond (.tmp 11) (.seq (.ops [.s 2 (.mov (.const (.bool false)))]) .ret) .skip)) (.seq (.seq (.ops [.fa 12 0 1, .ln 13 12, .bk 14 .eql false 13 5]) (.cond (.tmp 14) (.seq
 (.ops [.fa 15 2 1, .ln 16 15, .ll 17 16, .bk 18 .leq false 17 4, .m 19 18, .g 20 19 true (.fieldAddr 2 (.tmp 1)), .g 21 19 true (.load none (.tmp 20)), .g 22 19 true (.call 142 [.tmp 21]), .pf 23 19 22, .m 2 23]) .ret)
 .skip)) (.seq (.ops [.fa 24 2 1, .ln 25 24, .c1 26 143 25, .m 2 26]) .ret)))
def uI_ : LF := ⟨1, 27, c92, [.tmp 2]⟩
theorem D7_ : at_ Tryz.prog Tryz.f92 uI_ := ai_
theorem io_ (x : ab_) (hx : ab_.sz x ≤ 1048576) (h : List Row) : aa_ Tryz.prog 92 [.agg (ab_.cells x)] h (.val (.bool (bx_ x))) := by
 refine aj_ mixed Tryz.func92 D7_ rfl rfl ?_ h
 have h1 := ab_.sz_Name hx
 have h2 := ax_ (ab_.sz_Subs hx)
 by_cases k5 : x.Kind = 5
 ·simp (disch := omega) only [uI_, c92, ab_.cells, k5, go_sem, Nat.reduceEqDiff, Nat.reduceAdd, ↓reduceIte]
  have hN : bx_ x = (bV_ x.Name && bi_ x && (decide ((x.Subs.length : Int) ≤ 4) && gl_ x.Subs)) := by rw [bx_, if_pos k5]
  have hR := fun h => fZ_ x hx h
  simp only [ab_.cells, k5] at hR
  repeat' (first
   | exact af_ _ _
   | (refine ae_ ?_; rw [hN]; simp only [*, Bool.true_and, Bool.and_false, Bool.false_and, decide_true, decide_false, Bool.and_self]; done)
   | simp (disch := omega) only [go_sem, Nat.reduceEqDiff, Nat.reduceAdd, ↓reduceIte]
   | (refine aa_.call (dF_ _ h1 _) ?_)
   | (refine aa_.q (dF_ _ h1 _) ?_)
   | (refine aa_.call (hR _) ?_)
   | (refine aa_.q (hR _) ?_)
   | (refine aa_.call (hy_ _ h2 _) ?_)
   | (refine aa_.q (hy_ _ h2 _) ?_)
   | ((first | (apply aT_; assumption) | (apply aS_; assumption) | (apply a8_; assumption) | (apply a9_; assumption)); intro hb; try simp only [hb])
   | ((first | (apply aF_; assumption) | (apply aE_; assumption) | (apply aO_; assumption) | (apply aN_; assumption)); intro hb; try simp only [hb])
   | ((first | apply az_ | apply aC_ | apply ak_ | apply an_) <;> intro hb <;> (try simp only [hb]) <;> (first | have hp := aV_ hb | have hp := aW_ hb | have hp := aX_ hb | have hp := aU_ hb | skip)))
 ·have hN : bx_ x = (bV_ x.Name && bi_ x && bg_ x.Subs) := by rw [bx_, if_neg k5]
  simp (disch := omega) only [uI_, c92, ab_.cells, go_sem, Nat.reduceEqDiff, Nat.reduceAdd, ↓reduceIte]
  repeat' (first
   | exact af_ _ _
   | (refine ae_ ?_; rw [hN]; simp only [*, Bool.true_and, Bool.and_false, Bool.false_and, Bool.and_self]; done)
   | simp (disch := omega) only [k5, go_sem, Nat.reduceEqDiff, Nat.reduceAdd, ↓reduceIte]
   | (refine aa_.call (dF_ _ h1 _) ?_)
   | (refine aa_.q (dF_ _ h1 _) ?_)
   | (refine aa_.call (fZ_ x hx _) ?_)
   | (refine aa_.q (fZ_ x hx _) ?_)
   | (refine aa_.call (cc_ _ h2 _) ?_)
   | (refine aa_.q (cc_ _ h2 _) ?_)
   | ((first | (apply aT_; assumption) | (apply aS_; assumption) | (apply a8_; assumption) | (apply a9_; assumption)); intro hb; try simp only [hb])
   | ((first | (apply aF_; assumption) | (apply aE_; assumption) | (apply aO_; assumption) | (apply aN_; assumption)); intro hb; try simp only [hb])
   | ((first | apply az_ | apply aC_ | apply ak_ | apply an_) <;> intro hb <;> (try simp only [hb]) <;> (first | have hp := aV_ hb | have hp := aW_ hb | have hp := aX_ hb | have hp := aU_ hb | skip)))
def bF_ (x : ab_) : Bool := decide (x.Kind = 1) || decide (x.Kind = 4) || decide (x.Kind = 5) || decide (x.Kind = 6)
def b9_ (x : ab_) : Bool := decide (x.Kind = 2) || decide (x.Kind = 3)
def c81 : LC :=
 .seq (.ops [.s 1 (.box 79 (.tmp 0)), .s 2 (.mov (.const (.bool false)))]) (.seq (.ops [.fa 3 0 1, .ln 4 3, .bk 5 .eql false 4 1, .m 6 5, .g 7 6 false (.fieldAddr 0 (.tmp 1)), .g 8 6 false (.load none (.tmp 7)), .g 9 6
 false (.bin .eql false (.tmp 8) (.const (.int .i64 4))), .pt 10 6 9, .m 11 10, .g 12 11 false (.fieldAddr 0 (.tmp 1)), .g 13 11 false (.load none (.tmp 12)), .g 14 11 false (.bin .eql false (.tmp 13) (.const (.int .i64
 5))), .pt 15 11 14, .m 16 15, .g 17 16 false (.fieldAddr 0 (.tmp 1)), .g 18 16 false (.load none (.tmp 17)), .g 19 16 false (.bin .eql false (.tmp 18) (.const (.int .i64 6))), .pt 20 16 19, .m 2 20]) .ret)
def zs_ : LF := ⟨1, 21, c81, [.tmp 2]⟩
theorem D3_ : at_ Tryz.prog Tryz.f81 zs_ := ai_
theorem iG_ (x : ab_)  (h : List Row) : aa_ Tryz.prog 81 [.agg (ab_.cells x)] h (.val (.bool (bF_ x))) := by
 refine aj_ mixed Tryz.func81 D3_ rfl rfl ?_ h
 simp (disch := omega) only [zs_, c81, ab_.cells, go_sem, Nat.reduceEqDiff, Nat.reduceAdd, ↓reduceIte]
 repeat' (first
  | exact af_ _ _
  | (refine ae_ ?_; simp [bF_, *]; done)
  | simp (disch := omega) only [go_sem, Nat.reduceEqDiff, ↓reduceIte]
  | ((first | (apply aT_; assumption) | (apply aS_; assumption) | (apply a8_; assumption) | (apply a9_; assumption)); intro hb; try simp only [hb])
  | ((first | (apply aF_; assumption) | (apply aE_; assumption) | (apply aO_; assumption) | (apply aN_; assumption)); intro hb; try simp only [hb])
  | ((first | apply az_ | apply aC_ | apply ak_ | apply an_) <;> intro hb <;> (try simp only [hb]) <;> (first | have hp := aV_ hb | have hp := aW_ hb | have hp := aX_ hb | have hp := aU_ hb | skip)))
def CE_ : LC :=
 .seq (.ops [.s 1 (.box 79 (.tmp 0)), .s 2 (.mov (.const (.bool false)))]) (.seq (.ops [.fa 3 0 1, .ln 4 3, .bk 5 .eql false 4 2, .m 6 5, .g 7 6 false (.fieldAddr 0 (.tmp 1)), .g 8 6 false (.load none (.tmp 7)), .g 9 6
 false (.bin .eql false (.tmp 8) (.const (.int .i64 3))), .pt 10 6 9, .m 2 10]) .ret)
def wW_ : LF := ⟨1, 11, CE_, [.tmp 2]⟩
theorem A1_ : at_ Tryz.prog Tryz.f120 wW_ := ai_
theorem m9_ (x : ab_)  (h : List Row) : aa_ Tryz.prog 120 [.agg (ab_.cells x)] h (.val (.bool (b9_ x))) := by
 refine aj_ mixed Tryz.func120 A1_ rfl rfl ?_ h
 simp (disch := omega) only [wW_, CE_, ab_.cells, go_sem, Nat.reduceEqDiff, Nat.reduceAdd, ↓reduceIte]
 repeat' (first
  | exact af_ _ _
  | (refine ae_ ?_; simp [b9_, *]; done)
  | simp (disch := omega) only [go_sem, Nat.reduceEqDiff, ↓reduceIte]
  | ((first | (apply aT_; assumption) | (apply aS_; assumption) | (apply a8_; assumption) | (apply a9_; assumption)); intro hb; try simp only [hb])
  | ((first | (apply aF_; assumption) | (apply aE_; assumption) | (apply aO_; assumption) | (apply aN_; assumption)); intro hb; try simp only [hb])
  | ((first | apply az_ | apply aC_ | apply ak_ | apply an_) <;> intro hb <;> (try simp only [hb]) <;> (first | have hp := aV_ hb | have hp := aW_ hb | have hp := aX_ hb | have hp := aU_ hb | skip)))
def c94 : LC :=
 .seq (.ops [.s 1 (.box 79 (.tmp 0)), .s 2 (.mov (.const (.bool false)))]) (.seq (.ops [.fa 3 0 1, .ln 4 3, .bk 5 .eql false 4 2, .m 6 5, .g 7 6 false (.fieldAddr 0 (.tmp 1)), .g 8 6 false (.load none (.tmp 7)), .g 9 6
 false (.bin .eql false (.tmp 8) (.const (.int .i64 3))), .pt 10 6 9, .m 2 10]) .ret)
def As_ : LF := ⟨1, 11, c94, [.tmp 2]⟩
theorem DZ_ : at_ Tryz.prog Tryz.f94 As_ := ai_
theorem m4_ (x : ab_)  (h : List Row) : aa_ Tryz.prog 94 [.agg (ab_.cells x)] h (.val (.bool (b9_ x))) := by
 refine aj_ mixed Tryz.func94 DZ_ rfl rfl ?_ h
 simp (disch := omega) only [As_, c94, ab_.cells, go_sem, Nat.reduceEqDiff, Nat.reduceAdd, ↓reduceIte]
 repeat' (first
  | exact af_ _ _
  | (refine ae_ ?_; simp [b9_, *]; done)
  | simp (disch := omega) only [go_sem, Nat.reduceEqDiff, ↓reduceIte]
  | ((first | (apply aT_; assumption) | (apply aS_; assumption) | (apply a8_; assumption) | (apply a9_; assumption)); intro hb; try simp only [hb])
  | ((first | (apply aF_; assumption) | (apply aE_; assumption) | (apply aO_; assumption) | (apply aN_; assumption)); intro hb; try simp only [hb])
  | ((first | apply az_ | apply aC_ | apply ak_ | apply an_) <;> intro hb <;> (try simp only [hb]) <;> (first | have hp := aV_ hb | have hp := aW_ hb | have hp := aX_ hb | have hp := aU_ hb | skip)))
def cE_ (x : ab_) : Bool := bV_ x.Name && (if x.Kind = 5 then decide (0 < (x.Subs.length : Int)) && decide ((x.Subs.length : Int) ≤ 4) && bg_ (bW_ x.Subs) && (decide (dT_ x.Subs = txt []) || bQ_ (dT_ x.Subs)) else bg_ x.Subs)
def pU_ : LC :=
 .seq (.ops [.s 1 (.box 79 (.tmp 0)), .s 2 (.mov (.const (.bool false)))]) (.seq (.seq (.ops [.fa 4 1 1, .ln 5 4, .c1 6 158 5, .nt 7 6]) (.cond (.tmp 7) (.seq (.ops [.s 2 (.mov (.const (.bool false)))]) .ret) .skip))
 (.seq (.seq (.ops [.fa 8 0 1, .ln 9 8, .bk 10 .neq false 9 5]) (.cond (.tmp 10) (.seq (.ops [.fa 11 2 1, .ln 12 11, .c1 13 125 12, .m 2 13]) .ret) .skip)) (.seq (.ops [.fa 14 2 1, .ln 15 14, .ll 16 15, .m 3 16]) (.seq
 (.seq (.ops [.m 17 3, .bk 18 .lss false 17 1, .m 19 18, .g 20 19 false (.mov (.tmp 3)), .g 21 19 false (.bin .gtr false (.tmp 20) (.const (.int .i64 4))), .pt 22 19 21, .m 23 22, .g 24 23 false (.fieldAddr 2 (.tmp 1)),
 .g 25 23 false (.load none (.tmp 24)), .g 26 23 false (.mov (.tmp 3)), .g 27 23 false (.bin .sub false (.tmp 26) (.const (.int .i64 1))), .g 28 23 false (.sliceSl 1 (.tmp 25) none (some (.tmp 27))), .g 29 23 false (.call
 125 [.tmp 28]), .g 30 23 false (.un .not (.tmp 29)), .pt 31 23 30]) (.cond (.tmp 31) (.seq (.ops [.s 2 (.mov (.const (.bool false)))]) .ret) .skip)) (.seq (.ops [.fa 32 2 1, .ln 33 32, .m 34 3, .bk 35 .sub false 34 1,
 .ia 36 1 33 35, .ln 37 36, .s 38 (.bin .eql false (.tmp 37) (.const (.string ⟨#[]⟩))), .m 39 38, .g 40 39 false (.fieldAddr 2 (.tmp 1)), .g 41 39 false (.load none (.tmp 40)), .g 42 39 false (.mov (.tmp 3)), .g 43 39
 false (.bin .sub false (.tmp 42) (.const (.int .i64 1))), .g 44 39 false (.indexAddr 1 (.tmp 41) (.tmp 43)), .g 45 39 false (.load none (.tmp 44)), .g 46 39 false (.call 123 [.tmp 45]), .pt 47 39 46, .m 2 47]) .ret)))))
def mp_ : LF := ⟨1, 48, pU_, [.tmp 2]⟩
theorem BS_ : at_ Tryz.prog Tryz.f121 mp_ := ai_
theorem l9_ (x : ab_) (hx : ab_.sz x ≤ 1048576) (h : List Row) : aa_ Tryz.prog 121 [.agg (ab_.cells x)] h (.val (.bool (cE_ x))) := by
 refine aj_ mixed Tryz.func121 BS_ rfl rfl ?_ h
 have h1 := ab_.sz_Name hx
 have h2 := ax_ (ab_.sz_Subs hx)
 by_cases k5 : x.Kind = 5
 case neg =>
  have hN : cE_ x = (bV_ x.Name && bg_ x.Subs) := by rw [cE_, if_neg k5]
  simp (disch := omega) only [mp_, pU_, ab_.cells, go_sem, Nat.reduceEqDiff, Nat.reduceAdd, ↓reduceIte]
  repeat' (first
   | exact af_ _ _
   | (refine ae_ ?_; rw [hN]; simp only [*, Bool.true_and, Bool.false_and]; done)
   | simp (disch := omega) only [k5, go_sem, Nat.reduceEqDiff, ↓reduceIte]
   | (refine aa_.call (bM_ _ h1 _) ?_)
   | (refine aa_.q (bM_ _ h1 _) ?_)
   | (refine aa_.call (bP_ _ h2 _) ?_)
   | (refine aa_.q (bP_ _ h2 _) ?_)
   | ((first | (apply aT_; assumption) | (apply aS_; assumption) | (apply a8_; assumption) | (apply a9_; assumption)); intro hb; try simp only [hb])
   | ((first | (apply aF_; assumption) | (apply aE_; assumption) | (apply aO_; assumption) | (apply aN_; assumption)); intro hb; try simp only [hb])
   | ((first | apply az_ | apply aC_ | apply ak_ | apply an_) <;> intro hb <;> (try simp only [hb]) <;> (first | have hp := aV_ hb | have hp := aW_ hb | have hp := aX_ hb | have hp := aU_ hb | skip)))
 have hN : cE_ x = (bV_ x.Name && (decide (0 < (x.Subs.length : Int)) && decide ((x.Subs.length : Int) ≤ 4) && bg_ (bW_ x.Subs) && (decide (dT_ x.Subs = txt []) || bQ_ (dT_ x.Subs)))) := by rw [cE_, if_pos k5]
 by_cases h0 : x.Subs.length = 0
 ·have h0' : ((0 : Int) < x.Subs.length) = False := eq_false (by omega)
  have h0'' : ((x.Subs.length : Int) < 1) = True := eq_true (by omega)
  simp (disch := omega) only [mp_, pU_, ab_.cells, k5, go_sem, Nat.reduceEqDiff, Nat.reduceAdd, ↓reduceIte]
  repeat' (first
   | exact af_ _ _
   | (refine ae_ ?_; rw [hN]; simp [h0]; done)
   | (refine ae_ ?_; rw [hN]; simp only [*, Bool.and_true, Bool.true_and, Bool.and_false, Bool.false_and, Bool.or_true, Bool.true_or, Bool.or_false, Bool.false_or, Bool.not_true, Bool.not_false, decide_true, decide_false, Bool.and_self, Bool.or_self]; done)
   | simp (disch := omega) only [h0'', go_sem, Nat.reduceEqDiff, ↓reduceIte]
   | (refine aa_.call (bM_ _ h1 _) ?_)
   | (refine aa_.q (bM_ _ h1 _) ?_)
   | ((first | (apply aT_; assumption) | (apply aS_; assumption) | (apply a8_; assumption) | (apply a9_; assumption)); intro hb; try simp only [hb])
   | ((first | (apply aF_; assumption) | (apply aE_; assumption) | (apply aO_; assumption) | (apply aN_; assumption)); intro hb; try simp only [hb])
   | ((first | apply az_ | apply aC_ | apply ak_ | apply an_) <;> intro hb <;> (try simp only [hb]) <;> (first | have hp := aV_ hb | have hp := aW_ hb | have hp := aX_ hb | have hp := aU_ hb | skip)))
 ·have h0' : ((0 : Int) < x.Subs.length) = True := eq_true (by omega)
  have h0'' : ((x.Subs.length : Int) < 1) = False := eq_false (by omega)
  have hlt : x.Subs.length - 1 < x.Subs.length := by omega
  have hfr : x.Subs.take (x.Subs.length - 1) = bW_ x.Subs := rfl
  have hfl : (bW_ x.Subs).length ≤ 1048576 := by rw [bW_, length_take]; omega
  have hw : IntKind.i64.wrap ((x.Subs.length : Int) - 1) = ((x.Subs.length - 1 : Nat) : Int) := by rw [ar_ (n := (x.Subs.length : Int) - 1) (by omega) (by omega)]; omega
  by_cases q4 : (x.Subs.length : Int) ≤ 4
  ·have q4' : ((4 : Int) < x.Subs.length) = False := eq_false (by omega)
   simp (disch := omega) only [mp_, pU_, ab_.cells, k5, go_sem, Nat.reduceEqDiff, Nat.reduceAdd, ↓reduceIte]
   repeat' (first
    | exact af_ _ _
    | (refine ae_ ?_; rw [hN]; simp only [*, Bool.true_and, Bool.and_false, Bool.false_and, Bool.true_or, Bool.false_or, decide_true, Bool.and_self]; done)
    | simp (disch := omega) only [h0'', q4', hw, fb_, hfr, gb_, am_, go_sem, Nat.reduceEqDiff, ↓reduceIte]
    | (refine aa_.call (bM_ _ h1 _) ?_)
    | (refine aa_.q (bM_ _ h1 _) ?_)
    | (refine aa_.call (bP_ _ hfl _) ?_)
    | (refine aa_.q (bP_ _ hfl _) ?_)
    | (refine aa_.call (dY_ _ _) ?_)
    | (refine aa_.q (dY_ _ _) ?_)
    | ((first | (apply aT_; assumption) | (apply aS_; assumption) | (apply a8_; assumption) | (apply a9_; assumption)); intro hb; try simp only [hb])
    | ((first | (apply aF_; assumption) | (apply aE_; assumption) | (apply aO_; assumption) | (apply aN_; assumption)); intro hb; try simp only [hb])
    | ((first | apply az_ | apply aC_ | apply ak_ | apply an_) <;> intro hb <;> (try simp only [hb]) <;> (first | have hp := aV_ hb | have hp := aW_ hb | have hp := aX_ hb | have hp := aU_ hb | skip)))
  ·have q4' : ((4 : Int) < x.Subs.length) = True := eq_true (by omega)
   simp (disch := omega) only [mp_, pU_, ab_.cells, k5, go_sem, Nat.reduceEqDiff, Nat.reduceAdd, ↓reduceIte]
   repeat' (first
    | exact af_ _ _
    | (refine ae_ ?_; rw [hN]; simp only [*, Bool.and_false, Bool.false_and, decide_true, decide_false, Bool.and_self]; done)
    | simp (disch := omega) only [h0'', q4', go_sem, Nat.reduceEqDiff, ↓reduceIte]
    | (refine aa_.call (bM_ _ h1 _) ?_)
    | (refine aa_.q (bM_ _ h1 _) ?_)
    | ((first | (apply aT_; assumption) | (apply aS_; assumption) | (apply a8_; assumption) | (apply a9_; assumption)); intro hb; try simp only [hb])
    | ((first | (apply aF_; assumption) | (apply aE_; assumption) | (apply aO_; assumption) | (apply aN_; assumption)); intro hb; try simp only [hb])
    | ((first | apply az_ | apply aC_ | apply ak_ | apply an_) <;> intro hb <;> (try simp only [hb]) <;> (first | have hp := aV_ hb | have hp := aW_ hb | have hp := aX_ hb | have hp := aU_ hb | skip)))
theorem og_ (s : ByteArray) : (!fk_ s) = decide ((s.size : Int) ≤ 64) := by
 rw [fk_, Bool.eq_iff_iff]; simp only [Bool.not_eq_true', decide_eq_false_iff_not, decide_eq_true_eq]; omega
theorem sn_ (xs : List ByteArray) (x : ByteArray) : bg_ (xs ++ [x]) = (decide ((xs.length : Int) + 1 ≤ 4) && (xs.all bQ_ && bQ_ x)) := by
 simp [bg_]
theorem rI_ (xs : List ByteArray) (h : 0 < xs.length) : xs = bW_ xs ++ [dT_ xs] := by
 have hlt : xs.length - 1 < xs.length := by omega
 rw [← gb_ xs hlt, bW_]
 conv => lhs; rw [← take_append_drop (xs.length - 1) xs]
 congr 1
 rw [drop_eq_getElem_cons hlt, drop_eq_nil_of_le (by omega)]
theorem rH_ (xs : List ByteArray) : (decide ((xs.length : Int) ≤ 4) && gl_ xs) = (decide (0 < (xs.length : Int)) && decide ((xs.length : Int) ≤ 4) && bg_ (bW_ xs) && (decide (dT_ xs = txt []) || bQ_ (dT_ xs))) := by
 by_cases h0 : 0 < xs.length
 case neg =>
  have : xs.length = 0 := by omega
  simp [gl_, this]
 have hs : bg_ xs = (decide ((xs.length : Int) ≤ 4) && ((bW_ xs).all bQ_ && bQ_ (dT_ xs))) := by
  have e := rI_ xs h0
  have hl : ((bW_ xs).length : Int) + 1 = xs.length := by rw [bW_, length_take]; omega
  conv => lhs; rw [e]
  rw [sn_, hl]
 have hf : bg_ (bW_ xs) = (decide (((bW_ xs).length : Int) ≤ 4) && (bW_ xs).all bQ_) := rfl
 have hl : ((bW_ xs).length : Int) = xs.length - 1 := by rw [bW_, length_take]; omega
 rw [gl_, hs, hf, hl]
 have h1 : decide (0 < (xs.length : Int)) = true := by simp; omega
 rw [h1]
 by_cases h4 : (xs.length : Int) ≤ 4
 ·have h5 : decide ((xs.length : Int) - 1 ≤ 4) = true := by simp; omega
  have h4' : decide ((xs.length : Int) ≤ 4) = true := by simpa using h4
  rw [h4', h5]
  cases (bW_ xs).all bQ_ <;> cases bQ_ (dT_ xs) <;> cases decide (dT_ xs = txt []) <;> rfl
 ·have h4' : decide ((xs.length : Int) ≤ 4) = false := by simpa using h4
  rw [h4']; rfl
theorem rb_ {x : ab_} (k5 : ¬ x.Kind = 5) : cE_ x = (bV_ x.Name && bg_ x.Subs) := by rw [cE_, if_neg k5]
theorem sB_ {x : ab_} (k5 : ¬ x.Kind = 5) : bx_ x = (cE_ x && bi_ x) := by
 rw [bx_, if_neg k5, rb_ k5]; cases bV_ x.Name <;> cases bi_ x <;> cases bg_ x.Subs <;> rfl
theorem sQ_ {x : ab_} (k5 : x.Kind = 5) : bx_ x = (cE_ x && bi_ x) := by
 rw [bx_, if_pos k5, cE_, if_pos k5, rH_]
 generalize (decide (0 < (x.Subs.length : Int)) && decide ((x.Subs.length : Int) ≤ 4) && bg_ (bW_ x.Subs) && (decide (dT_ x.Subs = txt []) || bQ_ (dT_ x.Subs))) = q
 cases bV_ x.Name <;> cases bi_ x <;> cases q <;> rfl
theorem dZ_ (x : ab_) : bx_ x = (cE_ x && bi_ x) := by
 by_cases k5 : x.Kind = 5
 ·exact sQ_ k5
 ·exact sB_ k5
theorem EG_ {x : ab_} (k : x.Kind = 1) : bi_ x = (decide ((x.Value.size : Int) ≤ 64) && ez_ x.N && (decide (x.N.tmod 10 = 1) || decide (x.Value = txt []))) := by
 rw [bi_, if_pos k, og_]; rw [Bool.and_comm (ez_ x.N)]
theorem EI_ {x : ab_} (k : x.Kind = 4) : bi_ x = (ez_ x.N && decide (x.Value = txt [])) := by
 rw [bi_, if_neg (by omega), if_pos k]
theorem EH_ {x : ab_} (k : x.Kind = 5) : bi_ x = ((decide (x.Value = txt []) || bQ_ x.Value) && (decide (x.N = 1) || decide (x.N = -1))) := by
 rw [bi_, if_neg (by omega), if_neg (by omega), if_pos k, Bool.and_comm]
theorem oq_ (s : ByteArray) : bg_ (dX_ s).1 = true := by
 rw [dX_]
 cases h : f2_ dV_ (bs s) with
 | none => rfl
 | some xs => simp only; rw [eb_]; exact ((h7_ kS_ (bs s) xs).1 h).1
theorem Dy_ {x : ab_} (k : x.Kind = 6) : bi_ x = if x.N = 0 then decide (x.Value = txt []) else decide (x.N = 1) && (dX_ x.Value).2 := by
 rw [bi_, if_neg (by omega), if_neg (by omega), if_neg (by omega), if_pos k]
 by_cases h : x.N = 0
 ·rw [if_pos h, h]; simp
 ·rw [if_neg h]; simp [h]
theorem EM_ {x : ab_} (k : x.Kind = 2) : bi_ x = (decide ((x.Value.size : Int) ≤ 64) && decide (x.N = 0)) := by
 rw [bi_, if_neg (by omega), if_neg (by omega), if_neg (by omega), if_neg (by omega), if_pos k, og_, Bool.and_comm]
theorem EE_ {x : ab_} (k : x.Kind = 3) : bi_ x = (decide (x.Value = txt []) && decide (x.N = 0)) := by
 rw [bi_, if_neg (by omega), if_neg (by omega), if_neg (by omega), if_neg (by omega), if_neg (by omega)]
 simp [k, Bool.and_comm]
theorem EK_ {x : ab_} (k1 : ¬ x.Kind = 1) (k4 : ¬ x.Kind = 4) (k5 : ¬ x.Kind = 5) (k6 : ¬ x.Kind = 6) (k2 : ¬ x.Kind = 2) (k3 : ¬ x.Kind = 3) : bi_ x = false := by
 simp [bi_, *]
theorem v5_ (s : ByteArray) : (dX_ s).1.length ≤ 1048576 := by
 have := (eF_ (oq_ s)).1; omega
def c80 : LC :=
 .seq (.ops [.s 1 (.box 79 (.tmp 0)), .s 2 (.mov (.const (.bool false)))]) (.seq (.seq (.ops [.ld 5 5 1, .c1 6 81 5, .nt 7 6, .m 8 7, .g 9 8 true (.load (some 5) (.tmp 1)), .g 10 8 true (.call 120 [.tmp 9]), .g 11 8 true
 (.un .not (.tmp 10)), .pf 12 8 11, .m 13 12, .g 14 13 false (.load (some 5) (.tmp 1)), .g 15 13 false (.call 121 [.tmp 14]), .g 16 13 false (.un .not (.tmp 15)), .pt 17 13 16]) (.cond (.tmp 17) (.seq (.ops [.s 2 (.mov
 (.const (.bool false)))]) .ret) .skip)) (.seq (.seq (.ops [.fa 18 0 1, .ln 19 18]) (.block 0 (.seq (.ops [.bk 21 .eql false 19 1, .m 20 21]) (.cond (.tmp 20) (.seq (.ops [.fa 22 3 1, .ln 23 22, .s 24 (.lenStr (.tmp 23)),
 .bk 25 .leq false 24 64, .m 26 25, .g 27 26 true (.fieldAddr 4 (.tmp 1)), .g 28 26 true (.load none (.tmp 27)), .g 29 26 true (.call 122 [.tmp 28]), .pf 30 26 29, .m 31 30, .g 32 31 true (.fieldAddr 4 (.tmp 1)), .g 33 31
 true (.load none (.tmp 32)), .g 34 31 true (.bin .rem false (.tmp 33) (.const (.int .i64 10))), .g 35 31 true (.bin .eql false (.tmp 34) (.const (.int .i64 1))), .g 36 31 true (.mov (.tmp 35)), .g 37 36 false (.fieldAddr
 3 (.tmp 1)), .g 38 36 false (.load none (.tmp 37)), .g 39 36 false (.bin .eql false (.tmp 38) (.const (.string ⟨#[]⟩))), .g 40 31 true (.pick (.tmp 36) (.const (.bool true)) (.tmp 39)), .pf 41 31 40, .m 2 41]) .ret)
 (.seq (.ops [.bk 43 .eql false 19 4, .m 42 43]) (.cond (.tmp 42) (.seq (.ops [.fa 44 4 1, .ln 45 44, .c1 46 122 45, .m 47 46, .g 48 47 true (.fieldAddr 3 (.tmp 1)), .g 49 47 true (.load none (.tmp 48)), .g 50 47 true
 (.bin .eql false (.tmp 49) (.const (.string ⟨#[]⟩))), .pf 51 47 50, .m 2 51]) .ret) (.seq (.ops [.bk 53 .eql false 19 5, .m 52 53]) (.cond (.tmp 52) (.seq (.ops [.fa 54 3 1, .ln 55 54, .s 56 (.bin .eql false (.tmp 55)
 (.const (.string ⟨#[]⟩))), .m 57 56, .g 58 57 false (.fieldAddr 3 (.tmp 1)), .g 59 57 false (.load none (.tmp 58)), .g 60 57 false (.call 123 [.tmp 59]), .pt 61 57 60, .m 62 61, .g 63 62 true (.fieldAddr 4 (.tmp 1)), .g
 64 62 true (.load none (.tmp 63)), .g 65 62 true (.bin .eql false (.tmp 64) (.const (.int .i64 1))), .g 66 62 true (.mov (.tmp 65)), .g 67 66 false (.fieldAddr 4 (.tmp 1)), .g 68 66 false (.load none (.tmp 67)), .g 69 66
 false (.bin .eql false (.tmp 68) (.const (.int .i64 (-1)))), .g 70 62 true (.pick (.tmp 66) (.const (.bool true)) (.tmp 69)), .pf 71 62 70, .m 2 71]) .ret) (.seq (.ops [.bk 73 .eql false 19 6, .m 72 73]) (.cond (.tmp 72)
 (.seq (.seq (.ops [.fa 74 4 1, .ln 75 74, .bk 76 .eql false 75 0]) (.cond (.tmp 76) (.seq (.ops [.fa 77 3 1, .ln 78 77, .s 79 (.bin .eql false (.tmp 78) (.const (.string ⟨#[]⟩))), .m 2 79]) .ret) .skip)) (.seq (.ops [.fa
 81 3 1, .ln 82 81, .c1 83 124 82, .m 80 83, .ex 84 80 0, .ex 85 80 1, .m 3 84, .m 4 85]) (.seq (.ops [.fa 86 4 1, .ln 87 86, .bk 88 .eql false 87 1, .m 89 88, .g 90 89 true (.mov (.tmp 4)), .pf 91 89 90, .m 92 91, .g 93
 92 true (.mov (.tmp 3)), .g 94 92 true (.call 125 [.tmp 93]), .pf 95 92 94, .m 2 95]) .ret))) (.seq (.ops [.bk 97 .eql false 19 2, .m 96 97]) (.cond (.tmp 96) (.seq (.ops [.fa 98 3 1, .ln 99 98, .s 100 (.lenStr (.tmp
 99)), .bk 101 .leq false 100 64, .m 102 101, .g 103 102 true (.fieldAddr 4 (.tmp 1)), .g 104 102 true (.load none (.tmp 103)), .g 105 102 true (.bin .eql false (.tmp 104) (.const (.int .i64 0))), .pf 106 102 105, .m 2
 106]) .ret) .skip)))))))))))) (.seq (.ops [.fa 107 3 1, .ln 108 107, .s 109 (.bin .eql false (.tmp 108) (.const (.string ⟨#[]⟩))), .m 110 109, .g 111 110 true (.fieldAddr 4 (.tmp 1)), .g 112 110 true (.load none (.tmp
 111)), .g 113 110 true (.bin .eql false (.tmp 112) (.const (.int .i64 0))), .pf 114 110 113, .m 2 114]) .ret)))
def jY_ : LF := ⟨1, 115, c80, [.tmp 2]⟩
theorem Er_ : at_ Tryz.prog Tryz.f80 jY_ := ai_
theorem fs_ (x : ab_) (hx : ab_.sz x ≤ 1048576) (h : List Row) : aa_ Tryz.prog 80 [.agg (ab_.cells x)] h (.val (.bool (bx_ x))) := by
 refine aj_ mixed Tryz.func80 Er_ rfl rfl ?_ h
 have hv := ab_.sz_Value hx
 have hW := fun h => l9_ x hx h
 have hRd := fun h => iG_ x h
 have hTn := fun h => m9_ x h
 have hq := v5_ x.Value
 have hqs := oq_ x.Value
 by_cases k1 : x.Kind = 1
 ·have r : bF_ x = true := by simp [bF_, k1]
  have hN : bx_ x = (cE_ x && (decide ((x.Value.size : Int) ≤ 64) && ez_ x.N && (decide (x.N.tmod 10 = 1) || decide (x.Value = txt [])))) := by rw [dZ_, EG_ k1]
  rw [r] at hRd
  simp only [ab_.cells, k1] at hW hRd hTn
  simp (disch := omega) only [jY_, c80, ab_.cells, k1, go_sem, Nat.reduceEqDiff, Nat.reduceAdd, Int.reduceNeg, ↓reduceIte]
  repeat' (first
   | exact af_ _ _
   | (refine ae_ ?_; rw [hN]; simp only [*, Bool.true_and, Bool.and_false, Bool.false_and, Bool.true_or, Bool.false_or, decide_true, decide_false, Bool.and_self]; done)
   | simp (disch := omega) only [go_sem, Nat.reduceEqDiff, Nat.reduceAdd, Int.reduceNeg, ↓reduceIte]
   | (refine aa_.call (hRd _) ?_)
   | (refine aa_.q (hRd _) ?_)
   | (refine aa_.call (hTn _) ?_)
   | (refine aa_.q (hTn _) ?_)
   | (refine aa_.call (hW _) ?_)
   | (refine aa_.q (hW _) ?_)
   | (refine aa_.call (eZ_ _ _) ?_)
   | (refine aa_.q (eZ_ _ _) ?_)
   | ((first | (apply aT_; assumption) | (apply aS_; assumption) | (apply a8_; assumption) | (apply a9_; assumption)); intro hb; try simp only [hb])
   | ((first | (apply aF_; assumption) | (apply aE_; assumption) | (apply aO_; assumption) | (apply aN_; assumption)); intro hb; try simp only [hb])
   | ((first | apply az_ | apply aC_ | apply ak_ | apply an_) <;> intro hb <;> (try simp only [hb]) <;> (first | have hp := aV_ hb | have hp := aW_ hb | have hp := aX_ hb | have hp := aU_ hb | skip)))
 by_cases k4 : x.Kind = 4
 ·have r : bF_ x = true := by simp [bF_, k4]
  have hN : bx_ x = (cE_ x && (ez_ x.N && decide (x.Value = txt []))) := by rw [dZ_, EI_ k4]
  rw [r] at hRd
  simp only [ab_.cells, k4] at hW hRd hTn
  simp (disch := omega) only [jY_, c80, ab_.cells, k4, go_sem, Nat.reduceEqDiff, Nat.reduceAdd, Int.reduceNeg, ↓reduceIte]
  repeat' (first
   | exact af_ _ _
   | (refine ae_ ?_; rw [hN]; simp only [*, Bool.true_and, Bool.and_false, Bool.false_and]; done)
   | simp (disch := omega) only [Int.reduceEq, go_sem, Nat.reduceEqDiff, Nat.reduceAdd, Int.reduceNeg, ↓reduceIte]
   | (refine aa_.call (hRd _) ?_)
   | (refine aa_.q (hRd _) ?_)
   | (refine aa_.call (hTn _) ?_)
   | (refine aa_.q (hTn _) ?_)
   | (refine aa_.call (hW _) ?_)
   | (refine aa_.q (hW _) ?_)
   | (refine aa_.call (eZ_ _ _) ?_)
   | (refine aa_.q (eZ_ _ _) ?_)
   | ((first | (apply aT_; assumption) | (apply aS_; assumption) | (apply a8_; assumption) | (apply a9_; assumption)); intro hb; try simp only [hb])
   | ((first | (apply aF_; assumption) | (apply aE_; assumption) | (apply aO_; assumption) | (apply aN_; assumption)); intro hb; try simp only [hb])
   | ((first | apply az_ | apply aC_ | apply ak_ | apply an_) <;> intro hb <;> (try simp only [hb]) <;> (first | have hp := aV_ hb | have hp := aW_ hb | have hp := aX_ hb | have hp := aU_ hb | skip)))
 by_cases k5 : x.Kind = 5
 ·have r : bF_ x = true := by simp [bF_, k5]
  have hN : bx_ x = (cE_ x && ((decide (x.Value = txt []) || bQ_ x.Value) && (decide (x.N = 1) || decide (x.N = -1)))) := by rw [dZ_, EH_ k5]
  rw [r] at hRd
  simp only [ab_.cells, k5] at hW hRd hTn
  simp (disch := omega) only [jY_, c80, ab_.cells, k5, go_sem, Nat.reduceEqDiff, Nat.reduceAdd, Int.reduceNeg, ↓reduceIte]
  repeat' (first
   | exact af_ _ _
   | (refine ae_ ?_; rw [hN]; simp only [*, Bool.true_and, Bool.and_false, Bool.false_and, Bool.or_true, Bool.true_or, Bool.false_or, Bool.and_self, Bool.or_self]; done)
   | simp (disch := omega) only [Int.reduceEq, go_sem, Nat.reduceEqDiff, Nat.reduceAdd, Int.reduceNeg, ↓reduceIte]
   | (refine aa_.call (hRd _) ?_)
   | (refine aa_.q (hRd _) ?_)
   | (refine aa_.call (hTn _) ?_)
   | (refine aa_.q (hTn _) ?_)
   | (refine aa_.call (hW _) ?_)
   | (refine aa_.q (hW _) ?_)
   | (refine aa_.call (dY_ _ _) ?_)
   | (refine aa_.q (dY_ _ _) ?_)
   | ((first | (apply aT_; assumption) | (apply aS_; assumption) | (apply a8_; assumption) | (apply a9_; assumption)); intro hb; try simp only [hb])
   | ((first | (apply aF_; assumption) | (apply aE_; assumption) | (apply aO_; assumption) | (apply aN_; assumption)); intro hb; try simp only [hb])
   | ((first | apply az_ | apply aC_ | apply ak_ | apply an_) <;> intro hb <;> (try simp only [hb]) <;> (first | have hp := aV_ hb | have hp := aW_ hb | have hp := aX_ hb | have hp := aU_ hb | skip)))
 by_cases k6 : x.Kind = 6
 ·have r : bF_ x = true := by simp [bF_, k6]
  rw [r] at hRd
  simp only [ab_.cells, k6] at hW hRd hTn
  by_cases hn0 : x.N = 0
  ·have hN : bx_ x = (cE_ x && decide (x.Value = txt [])) := by rw [dZ_, Dy_ k6, if_pos hn0]
   simp (disch := omega) only [jY_, c80, ab_.cells, k6, go_sem, Nat.reduceEqDiff, Nat.reduceAdd, Int.reduceNeg, ↓reduceIte]
   simp only [hn0] at hW hRd hTn
   repeat' (first
    | exact af_ _ _
    | (refine ae_ ?_; rw [hN]; simp only [*, Bool.true_and, Bool.false_and]; done)
    | simp (disch := omega) only [Int.reduceEq, hn0, go_sem, Nat.reduceEqDiff, Nat.reduceAdd, Int.reduceNeg, ↓reduceIte]
    | (refine aa_.call (hRd _) ?_)
    | (refine aa_.q (hRd _) ?_)
    | (refine aa_.call (hTn _) ?_)
    | (refine aa_.q (hTn _) ?_)
    | (refine aa_.call (hW _) ?_)
    | (refine aa_.q (hW _) ?_)
    | ((first | (apply aT_; assumption) | (apply aS_; assumption) | (apply a8_; assumption) | (apply a9_; assumption)); intro hb; try simp only [hb])
    | ((first | (apply aF_; assumption) | (apply aE_; assumption) | (apply aO_; assumption) | (apply aN_; assumption)); intro hb; try simp only [hb])
    | ((first | apply az_ | apply aC_ | apply ak_ | apply an_) <;> intro hb <;> (try simp only [hb]) <;> (first | have hp := aV_ hb | have hp := aW_ hb | have hp := aX_ hb | have hp := aU_ hb | skip)))
  ·have hN : bx_ x = (cE_ x && (decide (x.N = 1) && (dX_ x.Value).2)) := by rw [dZ_, Dy_ k6, if_neg hn0]
   simp (disch := omega) only [jY_, c80, ab_.cells, k6, go_sem, Nat.reduceEqDiff, Nat.reduceAdd, Int.reduceNeg, ↓reduceIte]
   repeat' (first
    | exact af_ _ _
    | (refine ae_ ?_; rw [hN]; simp only [*, Bool.and_false, Bool.false_and, Bool.and_self]; done)
    | simp (disch := omega) only [Int.reduceEq, hn0, go_sem, Nat.reduceEqDiff, Nat.reduceAdd, Int.reduceNeg, ↓reduceIte]
    | (refine aa_.call (hRd _) ?_)
    | (refine aa_.q (hRd _) ?_)
    | (refine aa_.call (hTn _) ?_)
    | (refine aa_.q (hTn _) ?_)
    | (refine aa_.call (hW _) ?_)
    | (refine aa_.q (hW _) ?_)
    | (refine aa_.call (iC_ _ hv _) ?_)
    | (refine aa_.q (iC_ _ hv _) ?_)
    | (refine aa_.call (bP_ _ hq _) ?_)
    | (refine aa_.q (bP_ _ hq _) ?_)
    | ((first | (apply aT_; assumption) | (apply aS_; assumption) | (apply a8_; assumption) | (apply a9_; assumption)); intro hb; try simp only [hb])
    | ((first | (apply aF_; assumption) | (apply aE_; assumption) | (apply aO_; assumption) | (apply aN_; assumption)); intro hb; try simp only [hb])
    | ((first | apply az_ | apply aC_ | apply ak_ | apply an_) <;> intro hb <;> (try simp only [hb]) <;> (first | have hp := aV_ hb | have hp := aW_ hb | have hp := aX_ hb | have hp := aU_ hb | skip)))
 by_cases k2 : x.Kind = 2
 ·have r : bF_ x = false := by simp [bF_, k2]
  have r2 : b9_ x = true := by simp [b9_, k2]
  have hN : bx_ x = (cE_ x && (decide ((x.Value.size : Int) ≤ 64) && decide (x.N = 0))) := by rw [dZ_, EM_ k2]
  rw [r] at hRd
  rw [r2] at hTn
  simp only [ab_.cells, k2] at hW hRd hTn
  simp (disch := omega) only [jY_, c80, ab_.cells, k2, go_sem, Nat.reduceEqDiff, Nat.reduceAdd, Int.reduceNeg, ↓reduceIte]
  repeat' (first
   | exact af_ _ _
   | (refine ae_ ?_; rw [hN]; simp only [*, Bool.true_and, Bool.and_false, Bool.false_and, decide_true, decide_false]; done)
   | simp (disch := omega) only [Int.reduceEq, go_sem, Nat.reduceEqDiff, Nat.reduceAdd, Int.reduceNeg, ↓reduceIte]
   | (refine aa_.call (hRd _) ?_)
   | (refine aa_.q (hRd _) ?_)
   | (refine aa_.call (hTn _) ?_)
   | (refine aa_.q (hTn _) ?_)
   | (refine aa_.call (hW _) ?_)
   | (refine aa_.q (hW _) ?_)
   | ((first | (apply aT_; assumption) | (apply aS_; assumption) | (apply a8_; assumption) | (apply a9_; assumption)); intro hb; try simp only [hb])
   | ((first | (apply aF_; assumption) | (apply aE_; assumption) | (apply aO_; assumption) | (apply aN_; assumption)); intro hb; try simp only [hb])
   | ((first | apply az_ | apply aC_ | apply ak_ | apply an_) <;> intro hb <;> (try simp only [hb]) <;> (first | have hp := aV_ hb | have hp := aW_ hb | have hp := aX_ hb | have hp := aU_ hb | skip)))
 by_cases k3 : x.Kind = 3
 ·have r : bF_ x = false := by simp [bF_, k3]
  have r2 : b9_ x = true := by simp [b9_, k3]
  have hN : bx_ x = (cE_ x && (decide (x.Value = txt []) && decide (x.N = 0))) := by rw [dZ_, EE_ k3]
  rw [r] at hRd
  rw [r2] at hTn
  simp only [ab_.cells, k3] at hW hRd hTn
  simp (disch := omega) only [jY_, c80, ab_.cells, k3, go_sem, Nat.reduceEqDiff, Nat.reduceAdd, Int.reduceNeg, ↓reduceIte]
  repeat' (first
   | exact af_ _ _
   | (refine ae_ ?_; rw [hN]; simp only [*, Bool.true_and, Bool.and_false, Bool.false_and]; done)
   | simp (disch := omega) only [Int.reduceEq, go_sem, Nat.reduceEqDiff, Nat.reduceAdd, Int.reduceNeg, ↓reduceIte]
   | (refine aa_.call (hRd _) ?_)
   | (refine aa_.q (hRd _) ?_)
   | (refine aa_.call (hTn _) ?_)
   | (refine aa_.q (hTn _) ?_)
   | (refine aa_.call (hW _) ?_)
   | (refine aa_.q (hW _) ?_)
   | ((first | (apply aT_; assumption) | (apply aS_; assumption) | (apply a8_; assumption) | (apply a9_; assumption)); intro hb; try simp only [hb])
   | ((first | (apply aF_; assumption) | (apply aE_; assumption) | (apply aO_; assumption) | (apply aN_; assumption)); intro hb; try simp only [hb])
   | ((first | apply az_ | apply aC_ | apply ak_ | apply an_) <;> intro hb <;> (try simp only [hb]) <;> (first | have hp := aV_ hb | have hp := aW_ hb | have hp := aX_ hb | have hp := aU_ hb | skip)))
 have r : bF_ x = false := by simp [bF_, *]
 have r2 : b9_ x = false := by simp [b9_, *]
 have hN : bx_ x = false := by rw [dZ_, EK_ k1 k4 k5 k6 k2 k3]; simp
 rw [r] at hRd
 rw [r2] at hTn
 simp only [ab_.cells] at hW hRd hTn
 simp (disch := omega) only [jY_, c80, ab_.cells, go_sem, Nat.reduceEqDiff, Nat.reduceAdd, Int.reduceNeg, ↓reduceIte]
 repeat' (first
  | exact af_ _ _
  | (refine ae_ ?_; rw [hN]; done)
  | simp (disch := omega) only [go_sem, Nat.reduceEqDiff, Nat.reduceAdd, Int.reduceNeg, ↓reduceIte]
  | (refine aa_.call (hRd _) ?_)
  | (refine aa_.q (hRd _) ?_)
  | (refine aa_.call (hTn _) ?_)
  | (refine aa_.q (hTn _) ?_)
  | (refine aa_.call (hW _) ?_)
  | (refine aa_.q (hW _) ?_)
  | ((first | (apply aT_; assumption) | (apply aS_; assumption) | (apply a8_; assumption) | (apply a9_; assumption)); intro hb; try simp only [hb])
  | ((first | (apply aF_; assumption) | (apply aE_; assumption) | (apply aO_; assumption) | (apply aN_; assumption)); intro hb; try simp only [hb])
  | ((first | apply az_ | apply aC_ | apply ak_ | apply an_) <;> intro hb <;> (try simp only [hb]) <;> (first | have hp := aV_ hb | have hp := aW_ hb | have hp := aX_ hb | have hp := aU_ hb | skip)))
end Go.Proofs.YtfplhbjggecnpaaGreatDoor
