/-
 Contracts of functions of this program, over abstract values. Conditions: as each theorem says.
-/
import Derived.Test.YtclhpcfpchpbnaaGreatDoorFnVE
namespace Go.Proofs.YtclhpcfpchpbnaaGreatDoor
open Go.AW
set_option linter.unusedVariables false
set_option linter.unusedSimpArgs false
set_option maxRecDepth 4000

/-! Names bound to cells. -/
def isNm (n : ByteArray) (b : GBind) : Bool := decide (b.Name = n)
def cellAt (bs : List GBind) (n : ByteArray) : Int := match bs.find? (isNm n) with | some b => b.Cell | none => 0
theorem cellAt_drop (bs : List GBind) (n : ByteArray) (k : Nat) (h : k < bs.length) : cellAt (bs.drop k) n = if bs[k].Name = n then bs[k].Cell else cellAt (bs.drop (k + 1)) n := by
 rw [List.drop_eq_getElem_cons h]
 unfold cellAt
 rw [List.find?_cons]
 by_cases q : bs[k].Name = n
 ·simp [isNm, q]
 ·simp [isNm, q]
theorem cellAt_end (bs : List GBind) (n : ByteArray) (k : Nat) (h : bs.length ≤ k) : cellAt (bs.drop k) n = 0 := by
 rw [List.drop_eq_nil_of_le h]; rfl
theorem ltBind_trans (a b c : GBind) (h1 : ltBind a b = true) (h2 : ltBind b c = true) : ltBind a c = true := less_trans _ _ _ h1 h2
theorem data_inj {a b : ByteArray} (h : a.data.toList = b.data.toList) : a = b := by
 cases a; cases b; simpa using h
def posB (bs : List GBind) (n : ByteArray) : Nat := (bs.takeWhile fun b => Op.bytesLess b.Name.data.toList n.data.toList).length
theorem posB_le (bs : List GBind) (n : ByteArray) : posB bs n ≤ bs.length := List.Sublist.length_le (List.takeWhile_sublist _)
theorem posB_part {bs : List GBind} (h : bs.Pairwise fun a b => ltBind a b = true) (n : ByteArray) (i : Nat) (hi : i < bs.length) : Op.bytesLess bs[i].Name.data.toList n.data.toList = true ↔ i < posB bs n := by
 refine takeWhile_part (fun b : GBind => Op.bytesLess b.Name.data.toList n.data.toList) bs (fun a b ha hb hab hp => ?_) i hi
 rcases Nat.lt_or_eq_of_le hab with q | q
 ·exact less_trans _ _ _ (List.pairwise_iff_getElem.1 h a b ha hb q) hp
 ·subst q; exact hp
def foundBd (bs : List GBind) (n : ByteArray) : Bool := match bs[posB bs n]? with | some b => isNm n b | none => false
theorem foundBd_at {bs : List GBind} {n : ByteArray} (h : foundBd bs n = true) : ∃ hp : posB bs n < bs.length, bs[posB bs n].Name = n := by
 unfold foundBd at h
 split at h
 ·rename_i b e
  obtain ⟨hp, rfl⟩ := List.getElem?_eq_some_iff.1 e
  exact ⟨hp, by simpa [isNm] using h⟩
 ·cases h
theorem sorted_one {bs : List GBind} (h : bs.Pairwise fun a b => ltBind a b = true) {i j : Nat} (hi : i < bs.length) (hj : j < bs.length) (e : bs[i].Name = bs[j].Name) : i = j := by
 have key : ∀ a b (ha : a < bs.length) (hb : b < bs.length), a < b → bs[a].Name = bs[b].Name → False := by
  intro a b ha hb hab e
  have := List.pairwise_iff_getElem.1 h a b ha hb hab
  rw [ltBind, e, less_irrefl] at this
  cases this
 rcases Nat.lt_trichotomy i j with q | q | q
 ·exact (key i j hi hj q e).elim
 ·exact q
 ·exact (key j i hj hi q e.symm).elim
theorem cellAt_found {bs : List GBind} (h : bs.Pairwise fun a b => ltBind a b = true) {n : ByteArray} (q : foundBd bs n = true) : ∃ hp : posB bs n < bs.length, cellAt bs n = bs[posB bs n].Cell := by
 obtain ⟨hp, e⟩ := foundBd_at q
 refine ⟨hp, ?_⟩
 unfold cellAt
 cases hf : bs.find? (isNm n) with
 | none =>
  have := List.find?_eq_none.1 hf _ (List.getElem_mem hp)
  simp [isNm, e] at this
 | some b =>
  have hb := List.find?_some hf
  obtain ⟨i, hi, rfl⟩ := List.mem_iff_getElem.1 (List.mem_of_find?_eq_some hf)
  simp only [isNm, decide_eq_true_eq] at hb
  have := sorted_one h hi hp (hb.trans e.symm)
  subst this
  rfl
theorem cellAt_none {bs : List GBind} (h : bs.Pairwise fun a b => ltBind a b = true) {n : ByteArray} (q : foundBd bs n = false) : cellAt bs n = 0 := by
 unfold cellAt
 cases hf : bs.find? (isNm n) with
 | none => rfl
 | some b =>
  exfalso
  have hb := List.find?_some hf
  obtain ⟨i, hi, rfl⟩ := List.mem_iff_getElem.1 (List.mem_of_find?_eq_some hf)
  simp only [isNm, decide_eq_true_eq] at hb
  have hp := posB_part h n i hi
  have h1 : ¬ i < posB bs n := fun z => by
   have := hp.2 z
   rw [hb, less_irrefl] at this; cases this
  rcases Nat.lt_or_eq_of_le (Nat.le_of_not_lt h1) with z | z
  ·have h2 := List.pairwise_iff_getElem.1 h _ i (by omega) hi z
   rw [ltBind, hb] at h2
   have := (posB_part h n (posB bs n) (by omega)).1 h2
   omega
  ·unfold foundBd at q
   rw [z, List.getElem?_eq_getElem hi] at q
   simp [isNm, hb] at q
def c125 : LC :=
 .seq (.ops [⟨some 4, none, .mov (.const (.int .i64 0))⟩]) (.seq (.seq (.ops [⟨some 5, none, .mov (.const (.int .i64 0))⟩]) (.block 0 (.loop (.seq (.seq (.ops [⟨some 6, none, .mov (.tmp 5)⟩, ⟨some 7, none, .mov (.tmp 0)⟩,
 ⟨some 8, none, .lenSl (.tmp 7)⟩, ⟨some 9, none, .bin .lss false (.tmp 6) (.tmp 8)⟩]) (.cond (.tmp 9) (.skip) (.exit 0))) (.seq (.block 1 (.seq (.ops [⟨some 12, none, .mov (.tmp 0)⟩, ⟨some 13, none, .mov (.tmp 5)⟩, ⟨some
 14, none, .indexAddr 2 (.tmp 12) (.tmp 13)⟩, ⟨some 15, none, .fieldAddr 0 (.tmp 14)⟩, ⟨some 16, none, .load none (.tmp 15)⟩, ⟨some 17, none, .mov (.tmp 1)⟩, ⟨some 18, none, .bin .eql false (.tmp 16) (.tmp 17)⟩]) (.cond
 (.tmp 18) (.seq (.ops [⟨some 19, none, .mov (.tmp 0)⟩, ⟨some 20, none, .mov (.tmp 5)⟩, ⟨some 21, none, .indexAddr 2 (.tmp 19) (.tmp 20)⟩, ⟨some 22, none, .fieldAddr 1 (.tmp 21)⟩, ⟨some 23, none, .load none (.tmp 22)⟩,
 ⟨some 4, none, .mov (.tmp 23)⟩]) (.ret)) (.skip)))) (.ops [⟨some 10, none, .mov (.tmp 5)⟩, ⟨some 11, none, .bin .add false (.tmp 10) (.const (.int .i64 1))⟩, ⟨some 5, none, .mov (.tmp 11)⟩])))))) (.seq (.ops [⟨some 4,
 none, .mov (.const (.int .i64 0))⟩]) (.ret)))
def lf125 : LF := { np := 2, N := 24, body := c125, res := [.tmp 4] }
theorem low125 : LowF Tryz.prog Tryz.f125 lf125 := LowF.mk' (by kernel_rfl) (by kernel_rfl) (by kernel_rfl) (by decide)

theorem spec_l09Bind_ok (bs : List GBind) (n : ByteArray) (hx : bs.length ≤ 1048576) (h : List Row) : PureCall Tryz.prog 125 [.list 0 2 (bs.map GBind.cells), .val (.string n)] h (.val (.int .i64 (cellAt bs n))) := by
 refine pure_fn mixed Tryz.func125 low125 rfl rfl ?_ h
 simp (disch := omega) only [lf125, c125, go_sem]
 refine Ex_loop (fun m t h => ∃ k : Nat, t 0 = .list 0 2 (bs.map GBind.cells) ∧ t 1 = .val (.string n) ∧ t 5 = .val (.int .i64 k) ∧ m = bs.length - k ∧ k ≤ bs.length ∧ cellAt bs n = cellAt (bs.drop k) n) bs.length ⟨0, rfl, rfl, rfl, rfl, Nat.zero_le _, rfl⟩ ?_
 rintro J hJ m t h ⟨k, t0, t1, t5, rfl, hk, hS⟩
 by_cases hlt : k < bs.length
 ·rw [cellAt_drop _ _ _ hlt] at hS
  by_cases e : bs[k].Name = n
  ·have e' : (bs[k].Name = n) = True := eq_true e
   rw [if_pos e] at hS
   simp (disch := omega) only [t0, t1, t5, hlt, e', GBind.cells, go_sem, Nat.reduceEqDiff, Nat.reduceAdd, Nat.reduceLeDiff, reduceCtorEq, ↓reduceIte]
   exact resolve_int hS.symm
  ·have e' : (bs[k].Name = n) = False := eq_false e
   rw [if_neg e] at hS
   simp (disch := omega) only [t0, t1, t5, hlt, e', GBind.cells, wrap_in, go_sem, Nat.reduceEqDiff, Nat.reduceAdd, reduceCtorEq, ↓reduceIte]
   exact ⟨bs.length - (k + 1), by omega, hJ _ _ _ ⟨k + 1, by simp [upd, t0], by simp [upd, t1], by simp [upd], rfl, by omega, hS⟩⟩
 ·rw [cellAt_end _ _ _ (by omega)] at hS
  simp (disch := omega) only [t0, t5, hlt, go_sem, Nat.reduceEqDiff, reduceCtorEq, ↓reduceIte]
  exact resolve_int hS.symm
def c206 : LC :=
 .seq (.ops [⟨some 6, none, .mov (.const (.int .i64 0))⟩, ⟨some 7, none, .mov (.const (.bool false))⟩]) (.seq (.ops [⟨some 12, none, .mov (.tmp 0)⟩, ⟨some 13, none, .lenSl (.tmp 12)⟩, ⟨some 8, none, .mov (.tmp 13)⟩]) (.seq
 (.ops [⟨some 14, none, .mov (.tmp 8)⟩, ⟨some 9, none, .mov (.const (.int .i64 0))⟩, ⟨some 10, none, .mov (.tmp 14)⟩]) (.seq (.block 0 (.loop (.seq (.seq (.ops [⟨some 15, none, .mov (.tmp 9)⟩, ⟨some 16, none, .mov (.tmp
 10)⟩, ⟨some 17, none, .bin .lss false (.tmp 15) (.tmp 16)⟩]) (.cond (.tmp 17) (.skip) (.exit 0))) (.block 1 (.seq (.ops [⟨some 18, none, .mov (.tmp 9)⟩, ⟨some 19, none, .mov (.tmp 10)⟩, ⟨some 20, none, .bin .add false
 (.tmp 18) (.tmp 19)⟩, ⟨some 21, none, .convInt .u64 (.tmp 20)⟩, ⟨some 22, none, .bin .shr false (.tmp 21) (.const (.int .u64 1))⟩, ⟨some 23, none, .convInt .i64 (.tmp 22)⟩, ⟨some 11, none, .mov (.tmp 23)⟩]) (.seq (.ops
 [⟨some 24, none, .mov (.tmp 2)⟩, ⟨some 25, none, .mov (.tmp 0)⟩, ⟨some 26, none, .mov (.tmp 11)⟩, ⟨some 27, none, .indexAddr 2 (.tmp 25) (.tmp 26)⟩, ⟨some 28, none, .load (some 2) (.tmp 27)⟩, ⟨some 29, none, .mov (.tmp
 1)⟩, ⟨some 30, none, .callv (.tmp 24) [.tmp 28, .tmp 29]⟩, ⟨some 31, none, .bin .lss false (.tmp 30) (.const (.int .i64 0))⟩]) (.cond (.tmp 31) (.ops [⟨some 32, none, .mov (.tmp 11)⟩, ⟨some 33, none, .bin .add false (.tmp
 32) (.const (.int .i64 1))⟩, ⟨some 9, none, .mov (.tmp 33)⟩]) (.ops [⟨some 34, none, .mov (.tmp 11)⟩, ⟨some 10, none, .mov (.tmp 34)⟩])))))))) (.seq (.ops [⟨some 35, none, .mov (.tmp 9)⟩, ⟨some 36, none, .mov (.tmp 9)⟩,
 ⟨some 37, none, .mov (.tmp 8)⟩, ⟨some 38, none, .bin .lss false (.tmp 36) (.tmp 37)⟩, ⟨some 39, none, .mov (.tmp 38)⟩, ⟨some 40, (some (39, true)), .mov (.tmp 2)⟩, ⟨some 41, (some (39, true)), .mov (.tmp 0)⟩, ⟨some 42,
 (some (39, true)), .mov (.tmp 9)⟩, ⟨some 43, (some (39, true)), .indexAddr 2 (.tmp 41) (.tmp 42)⟩, ⟨some 44, (some (39, true)), .load (some 2) (.tmp 43)⟩, ⟨some 45, (some (39, true)), .mov (.tmp 1)⟩, ⟨some 46, (some (39,
 true)), .callv (.tmp 40) [.tmp 44, .tmp 45]⟩, ⟨some 47, (some (39, true)), .bin .eql false (.tmp 46) (.const (.int .i64 0))⟩, ⟨some 48, none, .pick (.tmp 39) (.tmp 47) (.const (.bool false))⟩, ⟨some 6, none, .mov (.tmp
 35)⟩, ⟨some 7, none, .mov (.tmp 48)⟩]) (.ret)))))
def lf206 : LF := { np := 3, N := 49, body := c206, res := [.tmp 6, .tmp 7] }
theorem low206 : LowF Tryz.prog Tryz.f206 lf206 := LowF.mk' (by kernel_rfl) (by kernel_rfl) (by kernel_rfl) (by decide)

theorem slices_BinarySearchFunc_string_ok (hs : List GBind) (tg : ByteArray) (c : GBind → ByteArray → Int) (g m : Nat) (hx : hs.length ≤ 1048576) (hm : m ≤ hs.length) (hpart : ∀ (i : Nat) (h : i < hs.length), (c hs[i] tg < 0 ↔ i < m)) (hc : callable Tryz.prog g = true)
 (hp : ∀ x ∈ hs, ∀ h, PureCall Tryz.prog g [.agg (GBind.cells x), .val (.string tg)] h (.val (.int .i64 (c x tg)))) (fd : Bool) (hfd : fd = if h : m < hs.length then decide (c hs[m] tg = 0) else false) (h : List Row) :
 PureCall Tryz.prog 206 [.list 0 2 (hs.map GBind.cells), .val (.string tg), .fn g [] []] h (.tup [.val (.int .i64 m), .val (.bool fd)]) := by
 refine pure_fn mixed Tryz.func206 low206 rfl rfl ?_ h
 simp only [GBind.cells] at hp
 simp (disch := omega) only [lf206, c206, go_sem, Nat.reduceEqDiff, reduceCtorEq, ↓reduceIte]
 refine Ex_loop (fun n t h => ∃ (i j : Nat), t 0 = .list 0 2 (hs.map GBind.cells) ∧ t 2 = .fn g [] [] ∧ t 1 = .val (.string tg) ∧ t 8 = .val (.int .i64 hs.length) ∧ t 9 = .val (.int .i64 i) ∧ t 10 = .val (.int .i64 j) ∧ n = j - i ∧ i ≤ m ∧ m ≤ j ∧ j ≤ hs.length) hs.length ⟨0, hs.length, rfl, rfl, rfl, rfl, rfl, rfl, rfl, Nat.zero_le _, hm, Nat.le_refl _⟩ ?_
 rintro J hJ n t h ⟨i, j, t0, t2, t1, t8, t9, t10, rfl, him, hmj, hj⟩
 by_cases hij : i < j
 ·have e1 : ((i : Int) + (j : Int)) = ((i + j : Nat) : Int) := by omega
  have hmid : (i + j) / 2 < hs.length := by omega
  have hq := hpart ((i + j) / 2) hmid
  simp (disch := omega) only [t0, t2, t1, t9, t10, hij, e1, wrap_u64_in, bin_shr1, hc, GBind.cells, go_sem, Nat.reduceEqDiff, Nat.reduceAdd, reduceCtorEq, ↓reduceIte]
  first | refine PureCall.q (hp hs[(i + j) / 2] (List.getElem_mem hmid) _) ?_ | refine PureCall.call (hp hs[(i + j) / 2] (List.getElem_mem hmid) _) ?_
  by_cases hl : c hs[(i + j) / 2] tg < 0
  ·simp (disch := omega) only [hl, go_sem, Nat.reduceEqDiff, ↓reduceIte]
   exact ⟨j - ((i + j) / 2 + 1), by omega, hJ _ _ _ ⟨(i + j) / 2 + 1, j, by simp [upd, t0], by simp [upd, t2], by simp [upd, t1], by simp [upd, t8], by simp [upd], by simp [upd, t10], rfl, by have := hq.1 hl; omega, hmj, hj⟩⟩
  ·have hnm : ¬ ((i + j) / 2 < m) := fun q => hl (hq.2 q)
   simp (disch := omega) only [hl, go_sem, Nat.reduceEqDiff, ↓reduceIte]
   exact ⟨(i + j) / 2 - i, by omega, hJ _ _ _ ⟨i, (i + j) / 2, by simp [upd, t0], by simp [upd, t2], by simp [upd, t1], by simp [upd, t8], by simp [upd, t9], by simp [upd], rfl, him, by omega, by omega⟩⟩
 ·have him' : i = m := by omega
  by_cases hml : m < hs.length
  ·have hil : i < hs.length := by omega
   subst him'
   rw [dif_pos hml] at hfd
   simp (disch := omega) only [t0, t2, t1, t8, t9, t10, hij, hil, hc, GBind.cells, go_sem, Nat.reduceEqDiff, Nat.reduceAdd, reduceCtorEq, ↓reduceIte]
   first | refine PureCall.q (hp hs[i] (List.getElem_mem hil) _) ?_ | refine PureCall.call (hp hs[i] (List.getElem_mem hil) _) ?_
   simp (disch := omega) only [go_sem, Nat.reduceEqDiff, ↓reduceIte]
   rw [hfd]
   exact resolve_tup _ _ rfl
  ·have hil : ¬ i < hs.length := by omega
   subst him'
   rw [dif_neg hml] at hfd
   simp (disch := omega) only [t8, t9, t10, hij, hil, go_sem, Nat.reduceEqDiff, ↓reduceIte]
   rw [hfd]
   exact resolve_tup _ _ rfl

def c207 : LC :=
 .seq (.ops [⟨some 2, none, .box 77 (.tmp 0)⟩, ⟨some 4, none, .mov (.const (.int .i64 0))⟩]) (.seq (.ops [⟨some 5, none, .fieldAddr 0 (.tmp 2)⟩, ⟨some 6, none, .load none (.tmp 5)⟩, ⟨some 7, none, .mov (.tmp 1)⟩, ⟨some 8,
 none, .call 192 [.tmp 6, .tmp 7]⟩, ⟨some 4, none, .mov (.tmp 8)⟩]) (.ret))
def lf207 : LF := { np := 2, N := 9, body := c207, res := [.tmp 4] }
theorem low207 : LowF Tryz.prog Tryz.f207 lf207 := LowF.mk' (by kernel_rfl) (by kernel_rfl) (by kernel_rfl) (by decide)

theorem impl_Locals_bind_c1_ok (c : GBind) (n : ByteArray)  (h : List Row) : PureCall Tryz.prog 207 [.agg (GBind.cells c), .val (.string n)] h (.val (.int .i64 (cmpS c.Name.data.toList n.data.toList))) := by
 refine pure_fn mixed Tryz.func207 low207 rfl rfl ?_ h
 simp (disch := omega) only [lf207, c207, GBind.cells, go_sem, Nat.reduceEqDiff, Nat.reduceAdd, ↓reduceIte]
 repeat' (first
  | exact resolve_val _ _
  | simp (disch := omega) only [go_sem, ↓reduceIte]
  | (refine PureCall.call (cmp_Compare_string_ok _ _ _) ?_)
  | (refine PureCall.q (cmp_Compare_string_ok _ _ _) ?_)
  | (first | (apply ExC_NT; assumption; intro hb; try simp only [hb]) | (apply ExC_NF; assumption; intro hb; try simp only [hb]) | (apply ExC_T; assumption; intro hb; try simp only [hb]) | (apply ExC_F; assumption; intro hb; try simp only [hb]))
  | ((first | refine ExC_splitN (fun hb => ?_) (fun hb => ?_) | refine ExC_split (fun hb => ?_) (fun hb => ?_)) <;> (try simp only [hb]) <;> (first | have hp : _ < _ := of_decide_eq_true hb | have hp : _ ≤ _ := of_decide_eq_true hb | have hp : ¬ (_ < _) := of_decide_eq_false hb | have hp : ¬ (_ ≤ _) := of_decide_eq_false hb | skip)))

def c173 : LC :=
 .seq (.ops [⟨some 4, none, .mov (.const (.int .i64 0))⟩, ⟨some 5, none, .mov (.const (.bool false))⟩]) (.seq (.ops [⟨some 6, none, .mov (.tmp 0)⟩, ⟨some 7, none, .nilCheck (.tmp 6)⟩, ⟨some 8, none, .fieldAddr 1 (.tmp 7)⟩,
 ⟨some 9, none, .load none (.tmp 8)⟩, ⟨some 10, none, .mov (.tmp 1)⟩, ⟨some 11, none, .call 206 [.tmp 9, .tmp 10, .func 207]⟩, ⟨some 12, none, .extract (.tmp 11) 0⟩, ⟨some 13, none, .extract (.tmp 11) 1⟩, ⟨some 4, none,
 .mov (.tmp 12)⟩, ⟨some 5, none, .mov (.tmp 13)⟩]) (.ret))
def lf173 : LF := { np := 2, N := 14, body := c173, res := [.tmp 4, .tmp 5] }
theorem low173 : LowF Tryz.prog Tryz.f173 lf173 := LowF.mk' (by kernel_rfl) (by kernel_rfl) (by kernel_rfl) (by decide)

theorem impl_Locals_bind_ok (x : GLocals) (n : ByteArray) (hx : GLocals.sz x ≤ 1048576) (hs : x.Binds.Pairwise fun a b => ltBind a b = true) (h : List Row) : PureCall Tryz.prog 173 [.iptr (GLocals.cells x), .val (.string n)] h (.tup [.val (.int .i64 (posB x.Binds n)), .val (.bool (foundBd x.Binds n))]) := by
 refine pure_fn mixed Tryz.func173 low173 rfl rfl ?_ h
 have hlen := szList_len (GLocals.sz_Binds hx)
 have hb : ∀ H, PureCall Tryz.prog 206 [.list 0 2 (x.Binds.map GBind.cells), .val (.string n), .fn 207 [] []] H (.tup [.val (.int .i64 (posB x.Binds n)), .val (.bool (foundBd x.Binds n))]) := fun H =>
  slices_BinarySearchFunc_string_ok x.Binds n (fun c n => cmpS c.Name.data.toList n.data.toList) 207 (posB x.Binds n) hlen (posB_le _ _) (fun i hi => by
   have := posB_part hs n i hi
   rw [← this, cmpS_neg]) (by kernel_rfl) (fun c hc h => impl_Locals_bind_c1_ok c n h) (foundBd x.Binds n) (by
   unfold foundBd
   by_cases hp : posB x.Binds n < x.Binds.length
   ·rw [dif_pos hp, List.getElem?_eq_getElem hp]
    simp only [isNm, cmpS_zero]
    rw [decide_eq_decide]
    exact ⟨fun e => by rw [e], data_inj⟩
   ·rw [dif_neg hp, List.getElem?_eq_none (by omega)]) H
 simp (disch := omega) only [lf173, c173, cellsLo, go_sem, Nat.reduceEqDiff, Nat.reduceAdd, Nat.reduceLeDiff, reduceCtorEq, ↓reduceIte]
 refine PureCall.call (hb _) ?_
 simp (disch := omega) only [go_sem, Nat.reduceEqDiff, ↓reduceIte]
 exact resolve_tup _ _ rfl
def c127 : LC :=
 .seq (.ops [⟨some 4, none, .mov (.const (.int .i64 0))⟩]) (.seq (.ops [⟨some 8, none, .mov (.tmp 0)⟩, ⟨some 9, none, .mov (.tmp 1)⟩, ⟨some 10, none, .call 173 [.tmp 8, .tmp 9]⟩, ⟨some 7, none, .mov (.tmp 10)⟩, ⟨some 11,
 none, .extract (.tmp 7) 0⟩, ⟨some 12, none, .extract (.tmp 7) 1⟩, ⟨some 5, none, .mov (.tmp 11)⟩, ⟨some 6, none, .mov (.tmp 12)⟩]) (.seq (.seq (.ops [⟨some 13, none, .mov (.tmp 6)⟩, ⟨some 14, none, .un .not (.tmp 13)⟩])
 (.cond (.tmp 14) (.seq (.ops [⟨some 4, none, .mov (.const (.int .i64 0))⟩]) (.ret)) (.skip))) (.seq (.ops [⟨some 15, none, .mov (.tmp 0)⟩, ⟨some 16, none, .nilCheck (.tmp 15)⟩, ⟨some 17, none, .fieldAddr 1 (.tmp 16)⟩,
 ⟨some 18, none, .load none (.tmp 17)⟩, ⟨some 19, none, .mov (.tmp 5)⟩, ⟨some 20, none, .indexAddr 2 (.tmp 18) (.tmp 19)⟩, ⟨some 21, none, .fieldAddr 1 (.tmp 20)⟩, ⟨some 22, none, .load none (.tmp 21)⟩, ⟨some 4, none, .mov
 (.tmp 22)⟩]) (.ret))))
def lf127 : LF := { np := 2, N := 23, body := c127, res := [.tmp 4] }
theorem low127 : LowF Tryz.prog Tryz.f127 lf127 := LowF.mk' (by kernel_rfl) (by kernel_rfl) (by kernel_rfl) (by decide)

theorem impl_Locals_bound_ok (x : GLocals) (n : ByteArray) (hx : GLocals.sz x ≤ 1048576) (hs : x.Binds.Pairwise fun a b => ltBind a b = true) (h : List Row) : PureCall Tryz.prog 127 [.iptr (GLocals.cells x), .val (.string n)] h (.val (.int .i64 (cellAt x.Binds n))) := by
 refine pure_fn mixed Tryz.func127 low127 rfl rfl ?_ h
 have hlen := szList_len (GLocals.sz_Binds hx)
 have hb : ∀ H, PureCall Tryz.prog 173 [.iptr [.val (.int .i64 x.Next), .list 0 2 (x.Binds.map GBind.cells), .list 0 2 (x.Cells.map GCell.cells), .list 0 1 (x.Levels.map GLevel.cells)], .val (.string n)] H (.tup [.val (.int .i64 (posB x.Binds n)), .val (.bool (foundBd x.Binds n))]) := fun H => impl_Locals_bind_ok x n hx hs H
 simp (disch := omega) only [lf127, c127, cellsLo, go_sem, Nat.reduceEqDiff, reduceCtorEq, ↓reduceIte]
 refine PureCall.call (hb _) ?_
 cases q : foundBd x.Binds n
 ·simp (disch := omega) only [go_sem, Nat.reduceEqDiff, ↓reduceIte]
  exact resolve_int (cellAt_none hs q).symm
 ·obtain ⟨hp, e⟩ := cellAt_found hs q
  simp (disch := omega) only [GBind.cells, go_sem, Nat.reduceEqDiff, Nat.reduceAdd, Nat.reduceLeDiff, reduceCtorEq, ↓reduceIte]
  exact resolve_int e.symm
end Go.Proofs.YtclhpcfpchpbnaaGreatDoor
