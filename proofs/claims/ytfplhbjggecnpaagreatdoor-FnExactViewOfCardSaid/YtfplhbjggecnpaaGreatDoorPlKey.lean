/-
 Plain numbers of texts: the number that a text begins with, the one text of a number, and the ways in which both programs reckon them. Nothing of any program.
-/
import Derived.Test.YtfplhbjggecnpaaGreatDoorShelf
import Derived.Test.YtfplhbjggecnpaaGreatDoorAwC
import Derived.Lib.ItoaNum
import GoSem.Op.String
namespace Go.AW
open Go.Lib (decDigits nDigits itoa)
def c2_ (b : UInt8) : Bool := b == 43 || b == 45
def bw_ (b : UInt8) : Bool := decide (48 ≤ b.toNat) && decide (b.toNat ≤ 57)
def dgt (b : UInt8) : Nat := b.toNat - 48
def c5_ (acc : Nat) (l : List UInt8) : Nat := l.foldl (fun a b => 10 * a + dgt b) acc
theorem eB_ (acc : Nat) : c5_ acc [] = acc := by unfold c5_; rw [List.foldl_nil]
theorem eL_ (acc : Nat) (b : UInt8) (l : List UInt8) : c5_ acc (b :: l) = c5_ (10 * acc + dgt b) l := by unfold c5_; rw [List.foldl_cons]
theorem iA_ (b : UInt8) (l : List UInt8) : c5_ 0 (b :: l) = c5_ (dgt b) l := by rw [eL_, Nat.mul_zero, Nat.zero_add]
theorem pM_ (acc : Nat) (a b : List UInt8) : c5_ acc (a ++ b) = c5_ (c5_ acc a) b := by
 induction a generalizing acc with
 | nil => rw [List.nil_append, eB_]
 | cons x a ih => rw [List.cons_append, eL_, eL_, ih]
theorem iF_ (acc : Nat) (l : List UInt8) : c5_ acc l = acc * 10 ^ l.length + c5_ 0 l := by
 induction l generalizing acc with
 | nil => rw [ln_, Nat.pow_zero, Nat.mul_one, eB_, eB_]; rfl
 | cons b l ih =>
  rw [eL_, iA_, ih (10 * acc + dgt b), ih (dgt b), lc_, Nat.pow_succ, Nat.add_mul, Nat.mul_comm 10 acc, Nat.mul_assoc, Nat.mul_comm 10, Nat.add_assoc]
theorem wF_ (acc : Nat) (l : List UInt8) : acc ≤ c5_ acc l := by
 rw [iF_]
 have : 1 ≤ 10 ^ l.length := Nat.one_le_pow _ _ (by decide)
 have := Nat.mul_le_mul_left acc this
 omega
theorem xt_ {b : UInt8} (h : bw_ b = true) : dgt b ≤ 9 := by
 simp only [bw_, Bool.and_eq_true, decide_eq_true_eq] at h
 unfold dgt; omega
theorem pX_ : ∀ (l : List UInt8), (∀ b ∈ l, dgt b ≤ 9) → c5_ 0 l < 10 ^ l.length
 | [], _ => by rw [ln_, Nat.pow_zero, eB_]; exact Nat.zero_lt_one
 | b :: l, h => by
  have h2 := pX_ l (fun x hx => h x (by simp [hx]))
  have h3 := h b (by simp)
  rw [iA_, iF_, lc_, Nat.pow_succ]
  generalize 10 ^ l.length = p at *
  have : dgt b * p ≤ 9 * p := Nat.mul_le_mul_right _ h3
  omega
def fa_ (n : Nat) : List UInt8 → Nat
 | [] => n
 | c :: cs => if (999999999999999999 - dgt c) / 10 < n then 999999999999999999 else fa_ (10 * n + dgt c) cs
theorem my_ : ∀ (l : List UInt8) (n : Nat), n ≤ 999999999999999999 → (∀ b ∈ l, dgt b ≤ 9) → fa_ n l = min (c5_ n l) 999999999999999999
 | [], n, h, _ => by rw [eB_]; show n = _; omega
 | c :: cs, n, h, hd => by
  have h3 := hd c (by simp)
  rw [eL_]
  show (if (999999999999999999 - dgt c) / 10 < n then 999999999999999999 else fa_ (10 * n + dgt c) cs) = _
  split
  ·have := wF_ (10 * n + dgt c) cs
   omega
  ·exact my_ cs _ (by omega) (fun b hb => hd b (by simp [hb]))
def dj_ (n : Nat) : List UInt8 → Nat
 | [] => n
 | b :: bs => if bw_ b then dj_ (min (10 * n + dgt b) 1000000000000) bs else n
theorem lQ_ : ∀ (l : List UInt8) (n : Nat), dj_ (min n 1000000000000) l = min (c5_ n (l.takeWhile bw_)) 1000000000000
 | [], n => by rw [List.takeWhile_nil, eB_]; rfl
 | b :: l, n => by
  simp only [dj_, List.takeWhile_cons]
  split
  ·have e : min (10 * min n 1000000000000 + dgt b) 1000000000000 = min (10 * n + dgt b) 1000000000000 := by omega
   rw [e, lQ_ l, eL_]
  ·rw [eB_]
def d2_ (n unit : Nat) : List UInt8 → Nat
 | [] => n
 | b :: bs => if bw_ b then d2_ (n + dgt b * unit) (unit / 10) bs else n
def it_ : Nat → Nat
 | 0 => 0
 | j + 1 => 10 ^ j
theorem qU_ (j : Nat) : it_ (j + 1) / 10 = it_ j := by
 cases j with
 | zero => rfl
 | succ j => simp only [it_, Nat.pow_succ]; omega
theorem lm_ (acc n : Nat) : c5_ acc (List.replicate n 48) = acc * 10 ^ n := by
 induction n generalizing acc with
 | zero => rw [List.replicate_zero, eB_, Nat.pow_zero, Nat.mul_one]
 | succ n ih =>
  have : dgt 48 = 0 := rfl
  rw [List.replicate_succ, eL_, ih, this, Nat.add_zero, Nat.pow_succ, Nat.mul_comm 10 acc, Nat.mul_assoc, Nat.mul_comm 10]
theorem iz_ : ∀ (l : List UInt8) (n j : Nat), j ≤ 6 → d2_ n (it_ j) l = n + c5_ 0 ((l.takeWhile bw_ ++ List.replicate 6 48).take j)
 | [], n, j, hj => by
  have : (([] : List UInt8).takeWhile bw_ ++ List.replicate 6 48).take j = List.replicate j 48 := by
   simp only [List.takeWhile_nil, List.nil_append, List.take_replicate]; congr 1; omega
  rw [this, lm_]; simp [d2_]
 | b :: l, n, j, hj => by
  simp only [d2_, List.takeWhile_cons]
  split
  ·cases j with
   | zero =>
    have e : it_ 0 = 0 := rfl
    rw [e, Nat.mul_zero, Nat.add_zero, Nat.zero_div]
    have := iz_ l n 0 (by omega)
    rw [e] at this
    rw [this]; simp
   | succ j =>
    rw [qU_, iz_ l _ j (by omega), List.cons_append, List.take_succ_cons]
    rw [iA_, iF_ (dgt b), List.length_take]
    have : min j (l.takeWhile bw_ ++ List.replicate 6 (48 : UInt8)).length = j := by
     simp only [la_, List.length_replicate]; omega
    rw [this]
    simp only [it_]
    omega
  ·have : (([] : List UInt8) ++ List.replicate 6 48).take j = List.replicate j 48 := by
    simp only [List.nil_append, List.take_replicate]; congr 1; omega
   rw [this, lm_]; simp
def bn_ (l : List UInt8) : List UInt8 := l.dropWhile c2_
def dF_ (l : List UInt8) : Bool := (l.takeWhile c2_).count 45 % 2 == 1
def l1_ (r : List UInt8) : List UInt8 := r.takeWhile bw_
def cv_ (r : List UInt8) : List UInt8 :=
 match r.dropWhile bw_ with
 | 46 :: t => t.takeWhile bw_
 | _ => []
def six (f : List UInt8) : List UInt8 := (f ++ List.replicate 6 48).take 6
def fc_ (l : List UInt8) : Nat := min (c5_ 0 (l1_ (bn_ l)) * 1000000 + c5_ 0 (six (cv_ (bn_ l)))) 999999999999999999
def bH_ (l : List UInt8) : Int := if dF_ l then -(fc_ l : Int) else fc_ l
theorem jE_ (l : List UInt8) : fc_ l ≤ 999999999999999999 := Nat.min_le_right _ _
theorem ej_ (l : List UInt8) : -999999999999999999 ≤ bH_ l ∧ bH_ l ≤ 999999999999999999 := by
 have := jE_ l
 unfold bH_
 split <;> omega
theorem ja_ (l : List UInt8) : ∀ b ∈ l.takeWhile bw_, dgt b ≤ 9 := fun b hb => xt_ (by
 induction l with
 | nil => simp at hb
 | cons x l ih =>
  rw [List.takeWhile_cons] at hb
  split at hb
  ·rcases List.mem_cons.1 hb with e | e
   ·subst e; assumption
   ·exact ih e
  ·simp at hb)
theorem le_ (r : List UInt8) : ∀ b ∈ cv_ r, dgt b ≤ 9 := by
 unfold cv_
 split
 ·exact ja_ _
 ·simp
theorem p9_ {f : List UInt8} (h : ∀ b ∈ f, dgt b ≤ 9) : ∀ b ∈ six f, dgt b ≤ 9 := by
 intro b hb
 have := List.mem_of_mem_take hb
 rcases List.mem_append.1 this with q | q
 ·exact h b q
 ·rw [List.eq_of_mem_replicate q]; decide
theorem iU_ (f : List UInt8) : (six f).length = 6 := by simp [six]
theorem tq_ (l : List UInt8) : fa_ 0 (l1_ (bn_ l) ++ six (cv_ (bn_ l))) = fc_ l := by
 rw [my_ _ _ (by omega), pM_, iF_ (c5_ 0 _), iU_]
 ·rfl
 ·intro b hb
  rcases List.mem_append.1 hb with q | q
  ·exact ja_ _ b q
  ·exact p9_ (le_ _) b q
theorem tx_ (l : List UInt8) : min (min (dj_ 0 (bn_ l) * 1000000) 1000000000000000000 + c5_ 0 (six (cv_ (bn_ l)))) 999999999999999999 = fc_ l := by
 have h1 := lQ_ (bn_ l) 0
 rw [Nat.zero_min] at h1
 have h2 := pX_ _ (p9_ (le_ (bn_ l)))
 rw [iU_] at h2
 unfold fc_ l1_
 rw [h1]
 omega
def bO_ (u : Nat) : List UInt8 := if u = 0 then [] else decDigits u
def eO_ (l : List UInt8) : List UInt8 := (l.reverse.dropWhile fun b => b == 48).reverse
def iZ_ (r : Nat) : List UInt8 := if r = 0 then [] else 46 :: eO_ ((decDigits (1000000 + r)).drop 1)
def cW_ (u : Nat) : List UInt8 := if u = 0 then [48] else bO_ (u / 1000000) ++ iZ_ (u % 1000000)
def bK_ (n : Int) : List UInt8 := if n < 0 then 45 :: cW_ n.natAbs else cW_ n.natAbs
theorem jP_ (u : Nat) : decDigits u ≠ [] := by
 rw [decDigits]; split <;> simp
theorem gV_ : ∀ (k u : Nat), u < 10 ^ (k + 1) → nDigits u ≤ k + 1
 | 0, u, h => by rw [Go.Lib.nDigits_small (by simpa using h)]; omega
 | k + 1, u, h => by
  by_cases h1 : u < 10
  ·rw [Go.Lib.nDigits_small h1]; omega
  ·rw [Go.Lib.nDigits_big h1]
   have := gV_ k (u / 10) (by rw [Nat.pow_succ] at h; omega)
   omega
theorem ew_ (l : List UInt8) : (eO_ l).length ≤ l.length := by
 unfold eO_
 rw [List.length_reverse]
 have := (List.dropWhile_sublist (l := l.reverse) (fun b => b == 48)).length_le
 rw [List.length_reverse] at this
 exact this
theorem og_ {r : Nat} (h : r < 1000000) : (iZ_ r).length ≤ 7 := by
 unfold iZ_
 split
 ·simp
 ·have h1 := ew_ ((decDigits (1000000 + r)).drop 1)
  rw [List.length_drop, Go.Lib.decDigits_length, Go.Lib.nDigits_unique 6 (1000000 + r) (by omega) (by omega)] at h1
  rw [lc_]; omega
theorem iq_ {u : Nat} (h : u ≤ 999999999999999999) : (cW_ u).length ≤ 19 := by
 unfold cW_
 split
 ·simp
 ·rw [la_]
  have h1 := og_ (r := u % 1000000) (by omega)
  have h2 : (bO_ (u / 1000000)).length ≤ 12 := by
   unfold bO_
   split
   ·simp
   ·rw [Go.Lib.decDigits_length]; exact gV_ 11 _ (by omega)
  omega
theorem f6_ {n : Int} (h1 : -999999999999999999 ≤ n) (h2 : n ≤ 999999999999999999) : (bK_ n).length ≤ 20 := by
 have := iq_ (u := n.natAbs) (by omega)
 unfold bK_
 split
 ·rw [lc_]; omega
 ·omega
theorem qD_ (u : Nat) : cW_ u ≠ [] := by
 unfold cW_
 split
 ·simp
 ·intro h
  have h1 := (List.append_eq_nil_iff.1 h).1
  have h2 := (List.append_eq_nil_iff.1 h).2
  have e1 : u / 1000000 = 0 := by
   unfold bO_ at h1
   split at h1
   ·assumption
   ·exact absurd h1 (jP_ _)
  have e2 : u % 1000000 = 0 := by
   unfold iZ_ at h2
   split at h2
   ·assumption
   ·simp at h2
  omega
theorem qs_ (n : Int) : bK_ n ≠ [] := by
 unfold bK_
 split
 ·simp
 ·exact qD_ _
def bJ_ (l : List UInt8) : Bool := decide (bK_ (bH_ l) = l)
theorem qt_ (l : List UInt8) : (decide (l ≠ []) && decide (l.length ≤ 21) && decide (bK_ (bH_ l) = l)) = bJ_ l := by
 unfold bJ_
 by_cases h : bK_ (bH_ l) = l
 ·have h1 := qs_ (bH_ l)
  have h2 := f6_ (ej_ l).1 (ej_ l).2
  rw [h] at h1 h2
  have h3 : l.length ≤ 21 := by omega
  simp [h, h1, h3]
 ·simp [h]
theorem rS_ {a b : List UInt8} (ha : bJ_ a = true) (hb : bJ_ b = true) (h : bH_ a = bH_ b) : a = b := by
 rw [← of_decide_eq_true ha, ← of_decide_eq_true hb, h]
theorem rY_ {r : Nat} (h0 : r ≠ 0) (h : r < 1000000) : ∃ b ∈ (decDigits (1000000 + r)).drop 1, b ≠ 48 := by
 have hn : nDigits (1000000 + r) = 7 := Go.Lib.nDigits_unique 6 (1000000 + r) (by omega) (by omega)
 have hd : (decDigits (1000000 + r)).drop 1 = [Go.Lib.dg (1000000 + r) 5, Go.Lib.dg (1000000 + r) 4, Go.Lib.dg (1000000 + r) 3, Go.Lib.dg (1000000 + r) 2, Go.Lib.dg (1000000 + r) 1, Go.Lib.dg (1000000 + r) 0] := by
  rw [Go.Lib.decDigits_eq, hn]; rfl
 have key : ∀ j, Go.Lib.dg (1000000 + r) j = 48 → (1000000 + r) / 10 ^ j % 10 = 0 := by
  intro j hj
  have := congrArg UInt8.toNat hj
  simp only [Go.Lib.dg] at this
  rw [UInt8.toNat_ofNat'] at this
  have h2 : (48 : UInt8).toNat = 48 := rfl
  rw [h2] at this
  omega
 rw [hd]
 apply Classical.byContradiction
 intro hc
 have hall : ∀ b ∈ [Go.Lib.dg (1000000 + r) 5, Go.Lib.dg (1000000 + r) 4, Go.Lib.dg (1000000 + r) 3, Go.Lib.dg (1000000 + r) 2, Go.Lib.dg (1000000 + r) 1, Go.Lib.dg (1000000 + r) 0], b = 48 := by
  intro b hb
  apply Classical.byContradiction
  intro hn
  exact hc ⟨b, hb, hn⟩
 have k5 := key 5 (hall _ (by simp))
 have k4 := key 4 (hall _ (by simp))
 have k3 := key 3 (hall _ (by simp))
 have k2 := key 2 (hall _ (by simp))
 have k1 := key 1 (hall _ (by simp))
 have k0 := key 0 (hall _ (by simp))
 simp only [Nat.reducePow] at k5 k4 k3 k2 k1 k0
 omega
end Go.AW
namespace Go.Proofs.YtfplhbjggecnpaaGreatDoor
open Go.AW
set_option linter.unusedVariables false
set_option linter.unusedSimpArgs false
set_option maxRecDepth 4000
theorem f3_ (l cs : List UInt8) (hcs : cs.length < 4294967281) (ha : ∀ b ∈ cs, b.toNat < 128) (h : List Row) :
 aa_ Tryz.prog 226 [.val (.string (txt l)), .val (.string (txt cs))] h (.val (.string (txt (l.dropWhile (cs.contains ·))))) := by
 refine gZ_ (vals := [.string (txt l), .string (txt cs)]) (fun w _ => ?_) h
 have := Any.strings_TrimLeft_laid Tryz.lays161 (by kernel_rfl) (txt l) (txt cs) w (by rw [cV_]; exact hcs) (by rw [bQ_]; intro j b hb; exact ha b (List.mem_of_getElem? hb))
 rw [bQ_, bQ_] at this
 exact this
theorem da_ (l cs : List UInt8) (hl : l.length ≤ 9223372036854775807) (hcs : cs.length < 4294967281) (ha : ∀ b ∈ cs, b.toNat < 128) (h : List Row) :
 aa_ Tryz.prog 237 [.val (.string (txt l)), .val (.string (txt cs))] h (.val (.string (txt ((l.reverse.dropWhile (cs.contains ·)).reverse)))) := by
 refine gZ_ (vals := [.string (txt l), .string (txt cs)]) (fun w _ => ?_) h
 have := Any.strings_TrimRight_laid Tryz.lays162 (by kernel_rfl) (txt l) (txt cs) w (by rw [cV_]; exact hl) (by rw [cV_]; exact hcs) (by rw [bQ_]; intro j b hb; exact ha b (List.mem_of_getElem? hb))
 rw [bQ_, bQ_] at this
 exact this
theorem kW_ (l : List UInt8) (c : UInt8) (h : List Row) :
 aa_ Tryz.prog 227 [.val (.string (txt l)), .val (.string (txt [c]))] h (.val (.int .i64 (l.count c))) := by
 refine gZ_ (vals := [.string (txt l), .string (txt [c])]) (fun w _ => ?_) h
 have := Any.strings_Count_one Tryz.lays138 (txt l) c w
 rw [bQ_] at this
 refine this.mono ?_
 rintro e w' ⟨rfl, rfl⟩
 exact ⟨rfl, Go.RowKit.Below.refl _ _⟩
theorem o0_ (w : World) (q : Nat) (os : Array Obj) : RowKit.Below w.heap.size w (Go.Sort.grow (w.drewN q) os) :=
 ⟨rfl, rfl, rfl, by first | (simp [Go.Sort.grow]; done) | (simp [Go.Sort.grow]; omega), fun i hi => by
  show ((w.drewN q).heap ++ os)[i]? = _
  rw [Array.getElem?_append_left (by show i < w.heap.size; omega)]
  rfl⟩
theorem bE_ (n : Int) (h0 : -9223372036854775808 ≤ n) (h1 : n ≤ 9223372036854775807) (h : List Row) :
 aa_ Tryz.prog 236 [.val (.int .i64 n), .val (.int .i64 10)] h (.val (.string (txt (Lib.itoa n)))) := by
 refine gZ_ (vals := [.int .i64 n, .int .i64 10]) (fun w ht => ?_) h
 have := Any.strconv_FormatInt_10 Tryz.laysM173 n h0 h1 w (ht ("internal/strconv.uint64pow10", (Lib.pow10Tab.map fun z => Value.int .u64 z).toArray) (by simp [oR_]) (by kernel_rfl))
 refine this.mono ?_
 rintro e w' ⟨rfl, k, os, rfl⟩
 exact ⟨rfl, o0_ _ _ _⟩
theorem iB_ (l p : List UInt8) (h : List Row) :
 aa_ Tryz.prog 229 [.val (.string (txt l)), .val (.string (txt p))] h (.tup [.val (.string (txt (Lib.trimPrefix l p))), .val (.bool (Lib.hasPrefix l p))]) := by
 refine sa_ (vals := [.string (txt l), .string (txt p)]) (us := [.string (txt (Lib.trimPrefix l p)), .bool (Lib.hasPrefix l p)]) (fun w _ => ?_) h
 have := Any.strings_CutPrefix Tryz.lays103 (txt l) (txt p) w
 rw [bQ_, bQ_] at this
 refine this.mono ?_
 rintro e w' ⟨rfl, rfl⟩
 exact ⟨rfl, Go.RowKit.Below.refl _ _⟩
theorem o1_ (b : UInt8) : ([48, 49, 50, 51, 52, 53, 54, 55, 56, 57] : List UInt8).contains b = bw_ b := by
 have hb := b.toNat_lt
 rw [Bool.eq_iff_iff]
 simp only [List.contains_eq_mem, List.mem_cons, List.not_mem_nil, or_false, decide_eq_true_eq, bw_, Bool.and_eq_true, ← UInt8.toNat_inj]
 show (b.toNat = 48 ∨ b.toNat = 49 ∨ b.toNat = 50 ∨ b.toNat = 51 ∨ b.toNat = 52 ∨ b.toNat = 53 ∨ b.toNat = 54 ∨ b.toNat = 55 ∨ b.toNat = 56 ∨ b.toNat = 57) ↔ _
 omega
theorem ox_ (b : UInt8) : ([43, 45] : List UInt8).contains b = c2_ b := by
 rw [Bool.eq_iff_iff]
 simp [c2_]
theorem cT_ {α : Type} {p q : α → Bool} (h : ∀ x, p x = q x) (l : List α) : l.dropWhile p = l.dropWhile q := by
 have : p = q := funext h
 rw [this]
theorem ff_ {α : Type} (p : α → Bool) (l : List α) : (l.takeWhile p).length + (l.dropWhile p).length = l.length := by
 rw [← List.length_append, List.takeWhile_append_dropWhile]
theorem ga_ {α : Type} (p : α → Bool) (l : List α) : l.take (l.takeWhile p).length = l.takeWhile p := by
 have h := List.takeWhile_append_dropWhile (p := p) (l := l)
 have h2 : (l.takeWhile p ++ l.dropWhile p).take (l.takeWhile p).length = l.takeWhile p := List.take_left' rfl
 rw [h] at h2; exact h2
theorem ma_ {α : Type} (p : α → Bool) (l : List α) : l.drop (l.takeWhile p).length = l.dropWhile p := by
 have h := List.takeWhile_append_dropWhile (p := p) (l := l)
 have h2 : (l.takeWhile p ++ l.dropWhile p).drop (l.takeWhile p).length = l.dropWhile p := List.drop_left' rfl
 rw [h] at h2; exact h2
def yJ_ : LC :=
 .seq (.ops [.ki 2 0]) (.seq (.ops [.m 3 0, .s 4 (.lenStr (.tmp 3)), .m 5 0, .s 6 (.call 226 [.tmp 5, .const (.string ⟨#[48, 49, 50, 51, 52, 53, 54, 55, 56, 57]⟩)]), .s 7 (.lenStr (.tmp 6)), .bb 8 .sub false 4 7, .m 2 8])
 .ret)
def vn_ : LF := ⟨1, 9, yJ_, [.tmp 2]⟩
theorem zk_ : at_ Tryz.prog Tryz.f228 vn_ := ah_
theorem g8_ (l : List UInt8) (hl : l.length ≤ 2000000) (h : List Row) : aa_ Tryz.prog 228 [.val (.string (txt l))] h (.val (.int .i64 (l.takeWhile bw_).length)) := by
 refine aj_ mixed Tryz.func228 zk_ rfl rfl ?_ h
 have hw := ff_ bw_ l
 simp (disch := omega) only [vn_, yJ_, go_sem, reduceCtorEq, ↓reduceIte]
 refine aa_.call (f3_ l _ (by decide) (by decide) _) ?_
 rw [cT_ o1_]
 simp (disch := omega) only [go_sem, Nat.reduceEqDiff, ↓reduceIte]
 exact aH_ (by omega)
def dl_ (x lo hi : Int) : Bool := decide (lo ≤ x) && decide (x ≤ hi)
def xz_ : LC :=
 .seq (.ops [.s 6 (.mov (.const (.bool false)))]) (.seq (.ops [.m 7 1, .m 8 0, .bb 9 .leq false 7 8, .m 10 9, .g 11 10 true (.mov (.tmp 0)), .g 12 10 true (.mov (.tmp 2)), .g 13 10 true (.bin .leq false (.tmp 11) (.tmp
 12)), .pf 14 10 13, .m 6 14]) .ret)
def v2_ : LF := ⟨3, 15, xz_, [.tmp 6]⟩
theorem zl_ : at_ Tryz.prog Tryz.f116 v2_ := ah_
theorem eV_ (x lo hi : Int)  (h : List Row) : aa_ Tryz.prog 116 [.val (.int .i64 x), .val (.int .i64 lo), .val (.int .i64 hi)] h (.val (.bool (dl_ x lo hi))) := by
 refine aj_ mixed Tryz.func116 zl_ rfl rfl ?_ h
 simp (disch := omega) only [v2_, xz_, go_sem, Nat.reduceEqDiff, reduceCtorEq, ↓reduceIte]
 repeat' (first
  | exact ae_ _ _
  | (refine ad_ ?_; first | rfl | (simp only [dl_, *, Bool.true_and, Bool.false_and, decide_true, decide_false]; done) | (simp [dl_, *]; done))
  | simp (disch := omega) only [go_sem, Nat.reduceEqDiff, reduceCtorEq, ↓reduceIte]
  | ((first | (apply aR_; assumption) | (apply aQ_; assumption) | (apply a3_; assumption) | (apply a4_; assumption)); intro hb; try simp only [hb])
  | ((first | (apply aG_; assumption) | (apply aE_; assumption) | (apply aL_; assumption) | (apply aM_; assumption)); intro hb; try simp only [hb])
  | ((first | apply av_ | apply ay_ | apply ak_ | apply al_) <;> intro hb <;> (try simp only [hb]) <;> (first | have hp := a1_ hb | have hp := aZ_ hb | have hp := a0_ hb | have hp := a2_ hb | skip)))
def xy_ : LC :=
 .seq (.ops [.s 6 (.mov (.const (.bool false)))]) (.seq (.ops [.m 7 0, .m 8 1, .bb 9 .geq false 7 8, .m 10 9, .g 11 10 true (.mov (.tmp 0)), .g 12 10 true (.mov (.tmp 2)), .g 13 10 true (.bin .leq false (.tmp 11) (.tmp
 12)), .pf 14 10 13, .m 6 14]) .ret)
def vZ_ : LF := ⟨3, 15, xy_, [.tmp 6]⟩
theorem Am_ : at_ Tryz.prog Tryz.f113 vZ_ := ah_
theorem gF_ (x lo hi : Int)  (h : List Row) : aa_ Tryz.prog 113 [.val (.int .i64 x), .val (.int .i64 lo), .val (.int .i64 hi)] h (.val (.bool (dl_ x lo hi))) := by
 refine aj_ mixed Tryz.func113 Am_ rfl rfl ?_ h
 simp (disch := omega) only [vZ_, xy_, go_sem, Nat.reduceEqDiff, reduceCtorEq, ↓reduceIte]
 repeat' (first
  | exact ae_ _ _
  | (refine ad_ ?_; first | rfl | (simp only [dl_, *, Bool.true_and, Bool.false_and, decide_true, decide_false]; done) | (simp [dl_, *]; done))
  | simp (disch := omega) only [go_sem, Nat.reduceEqDiff, reduceCtorEq, ↓reduceIte]
  | ((first | (apply aR_; assumption) | (apply aQ_; assumption) | (apply a3_; assumption) | (apply a4_; assumption)); intro hb; try simp only [hb])
  | ((first | (apply aG_; assumption) | (apply aE_; assumption) | (apply aL_; assumption) | (apply aM_; assumption)); intro hb; try simp only [hb])
  | ((first | apply av_ | apply ay_ | apply ak_ | apply al_) <;> intro hb <;> (try simp only [hb]) <;> (first | have hp := a1_ hb | have hp := aZ_ hb | have hp := a0_ hb | have hp := a2_ hb | skip)))
def zr_ : LC :=
 .seq (.ops [.s 2 (.mov (.const (.bool false)))]) (.seq (.ops [.m 3 0, .s 4 (.call 116 [.tmp 3, .const (.int .i64 (-999999999999999999)), .const (.int .i64 999999999999999999)]), .m 2 4]) .ret)
def vC_ : LF := ⟨1, 5, zr_, [.tmp 2]⟩
theorem yK_ : at_ Tryz.prog Tryz.f235 vC_ := ah_
theorem nb_ (x : Int)  (h : List Row) : aa_ Tryz.prog 235 [.val (.int .i64 x)] h (.val (.bool (dl_ x (-999999999999999999) 999999999999999999))) := by
 refine aj_ mixed Tryz.func235 yK_ rfl rfl ?_ h
 simp (disch := omega) only [vC_, zr_, go_sem, reduceCtorEq, Int.reduceNeg, ↓reduceIte]
 repeat' (first
  | exact ae_ _ _
  | simp (disch := omega) only [go_sem, Int.reduceNeg, ↓reduceIte]
  | (refine aa_.call (eV_ _ _ _ _) ?_)
  | (refine aa_.q (eV_ _ _ _ _) ?_)
  | ((first | (apply aR_; assumption) | (apply aQ_; assumption) | (apply a3_; assumption) | (apply a4_; assumption)); intro hb; try simp only [hb])
  | ((first | (apply aG_; assumption) | (apply aE_; assumption) | (apply aL_; assumption) | (apply aM_; assumption)); intro hb; try simp only [hb])
  | ((first | apply av_ | apply ay_ | apply ak_ | apply al_) <;> intro hb <;> (try simp only [hb]) <;> (first | have hp := a1_ hb | have hp := aZ_ hb | have hp := a0_ hb | have hp := a2_ hb | skip)))
def uA_ : LC :=
 .seq (.ops [.s 2 (.mov (.const (.bool false)))]) (.seq (.ops [.m 3 0, .s 4 (.bin .geq false (.tmp 3) (.const (.int .u8 48))), .m 5 4, .g 6 5 true (.mov (.tmp 0)), .g 7 5 true (.bin .leq false (.tmp 6) (.const (.int .u8
 57))), .pf 8 5 7, .m 2 8]) .ret)
def q2_ : LF := ⟨1, 9, uA_, [.tmp 2]⟩
theorem su_ : at_ Tryz.prog Tryz.f220 q2_ := ah_
theorem hj_ (b : UInt8)  (h : List Row) : aa_ Tryz.prog 220 [.val (.int .u8 b.toNat)] h (.val (.bool (bw_ b))) := by
 refine aj_ mixed Tryz.func220 su_ rfl rfl ?_ h
 simp (disch := omega) only [q2_, uA_, go_sem, reduceCtorEq, ↓reduceIte]
 repeat' (first
  | exact ae_ _ _
  | (refine ad_ ?_; rw [Bool.eq_iff_iff]; simp_all [bw_]; omega)
  | simp (disch := omega) only [go_sem, Nat.reduceEqDiff, reduceCtorEq, ↓reduceIte]
  | ((first | (apply aR_; assumption) | (apply aQ_; assumption) | (apply a3_; assumption) | (apply a4_; assumption)); intro hb; try simp only [hb])
  | ((first | (apply aG_; assumption) | (apply aE_; assumption) | (apply aL_; assumption) | (apply aM_; assumption)); intro hb; try simp only [hb])
  | ((first | apply av_ | apply ay_ | apply ak_ | apply al_) <;> intro hb <;> (try simp only [hb]) <;> (first | have hp := a1_ hb | have hp := aZ_ hb | have hp := a0_ hb | have hp := a2_ hb | skip)))
def xm_ : LC :=
 .seq (.ops [.ki 4 0]) (.seq (.seq (.ops [.m 5 0, .m 6 1, .bb 7 .lss false 5 6]) (.cond (.tmp 7) (.seq (.ops [.m 8 0, .m 4 8]) .ret) .skip)) (.seq (.ops [.m 9 1, .m 4 9]) .ret))
def uC_ : LF := ⟨2, 10, xm_, [.tmp 4]⟩
theorem xA_ : at_ Tryz.prog Tryz.f234 uC_ := ah_
theorem d0_ (a b : Int)  (h : List Row) : aa_ Tryz.prog 234 [.val (.int .i64 a), .val (.int .i64 b)] h (.val (.int .i64 (min a b))) := by
 refine aj_ mixed Tryz.func234 xA_ rfl rfl ?_ h
 simp (disch := omega) only [uC_, xm_, go_sem, Nat.reduceEqDiff, reduceCtorEq, ↓reduceIte]
 repeat' (first
  | exact ae_ _ _
  | (refine aH_ ?_; have := of_decide_eq_true ‹_›; omega)
  | (refine aH_ ?_; have := of_decide_eq_false ‹_›; omega)
  | simp (disch := omega) only [go_sem, Nat.reduceEqDiff, reduceCtorEq, ↓reduceIte]
  | ((first | (apply aG_; assumption) | (apply aE_; assumption) | (apply aL_; assumption) | (apply aM_; assumption)); intro hb; try simp only [hb])
  | ((first | apply ak_ | apply al_) <;> intro hb <;> (try simp only [hb]) <;> (first | have hp := a1_ hb | have hp := aZ_ hb | have hp := a0_ hb | have hp := a2_ hb | skip)))
theorem j3_ {b : UInt8} (h : bw_ b = true) : 48 ≤ b.toNat ∧ b.toNat ≤ 57 := by simpa [bw_] using h
def z5_ : LC :=
 .seq (.ops [.ki 4 0]) (.seq (.seq (.ops [.m 7 1, .s 8 (.toBytes (.tmp 7)), .ll 9 8, .ki 10 0]) (.block 0 (.loop (.seq (.ops [.bb 11 .lss false 10 9]) (.seq (.cond (.tmp 11) .skip (.exit 0)) (.seq (.block 1 (.seq (.ops
 [.ia 12 1 8 10, .ln 13 12, .m 6 13]) (.seq (.seq (.ops [.m 14 0, .m 15 6, .s 16 (.bin .sub false (.tmp 15) (.const (.int .u8 48))), .s 17 (.convInt .i64 (.tmp 16)), .s 18 (.bin .sub false (.const (.int .i64
 999999999999999999)) (.tmp 17)), .bk 19 .quo false 18 10, .bb 20 .gtr false 14 19]) (.cond (.tmp 20) (.seq (.ops [.ki 4 999999999999999999]) .ret) .skip)) (.ops [.m 21 0, .s 22 (.bin .mul false (.const (.int .i64 10))
 (.tmp 21)), .m 23 6, .s 24 (.bin .sub false (.tmp 23) (.const (.int .u8 48))), .s 25 (.convInt .i64 (.tmp 24)), .bb 26 .add false 22 25, .m 0 26])))) (.ops [.bk 27 .add false 10 1, .m 10 27]))))))) (.seq (.ops [.m 28 0,
 .m 4 28]) .ret))
def vE_ : LF := ⟨2, 29, z5_, [.tmp 4]⟩
theorem y9_ : at_ Tryz.prog Tryz.f230 vE_ := ah_
theorem lY_ (n0 : Nat) (l : List UInt8) (hl : l.length ≤ 2000000) (hn : n0 ≤ 999999999999999999) (hd : ∀ b ∈ l, 48 ≤ b.toNat ∧ b.toNat ≤ 57) (h : List Row) : aa_ Tryz.prog 230 [.val (.int .i64 n0), .val (.string (txt l))] h (.val (.int .i64 (fa_ n0 l))) := by
 refine aj_ mixed Tryz.func230 y9_ rfl rfl ?_ h
 simp (disch := omega) only [vE_, z5_, go_sem, Nat.reduceEqDiff, ↓reduceIte]
 refine aK_ (fun m t h => ∃ k n : Nat, t 0 = .val (.int .i64 n) ∧ t 8 = .list 0 1 (bk_ l) ∧ t 9 = .val (.int .i64 l.length) ∧ t 10 = .val (.int .i64 k) ∧ m = l.length - k ∧ k ≤ l.length ∧ n ≤ 999999999999999999 ∧ fa_ n0 l = fa_ n (l.drop k)) l.length ?_ ?_
 ·exact ⟨0, n0, rfl, rfl, rfl, rfl, rfl, Nat.zero_le _, hn, rfl⟩
 ·rintro J hJ m t h ⟨k, n, t0, t8, t9, t10, rfl, hk, hn', hS⟩
  by_cases hlt : k < l.length
  ·rw [cn_ l k hlt, fa_] at hS
   have hr := hd l[k] (List.getElem_mem hlt)
   simp (disch := omega) only [t0, t8, t9, t10, hlt, go_sem, Nat.reduceEqDiff, reduceCtorEq, ↓reduceIte]
   refine al_ (fun hb => ?_) (fun hb => ?_)
   ·have hb' := of_decide_eq_true hb
    rw [if_pos (by unfold dgt; omega)] at hS
    simp (disch := omega) only [go_sem, ↓reduceIte]
    exact aH_ (by rw [hS]; rfl)
   ·have hb' := of_decide_eq_false hb
    rw [if_neg (by unfold dgt; omega)] at hS
    simp (disch := omega) only [t0, t10, go_sem, Nat.reduceEqDiff, reduceCtorEq, ↓reduceIte]
    exact ⟨l.length - (k + 1), by omega, hJ _ _ _ ⟨k + 1, 10 * n + dgt l[k], by simp [upd, dgt]; omega, by simp [upd, t8], by simp [upd, t9], by simp [upd], rfl, by omega, by unfold dgt; omega, hS⟩⟩
  ·rw [List.drop_eq_nil_of_le (by omega), fa_] at hS
   simp (disch := omega) only [t0, t9, t10, hlt, go_sem, reduceCtorEq, ↓reduceIte]
   exact aH_ (by rw [hS])
theorem vf_ (d : List UInt8) : (∃ t, d = 46 :: t ∧ Lib.hasPrefix d [46] = true ∧ Lib.trimPrefix d [46] = t) ∨ (Lib.hasPrefix d [46] = false ∧ ∀ t, d ≠ 46 :: t) := by
 cases d with
 | nil => right; simp [Lib.hasPrefix]
 | cons b t =>
  by_cases h : b = 46
  ·left; subst h; exact ⟨t, rfl, by simp [Lib.hasPrefix, List.isPrefixOf], by simp [Lib.trimPrefix, Lib.hasPrefix, List.isPrefixOf]⟩
  ·right
   have h' : ¬ (46 = b) := fun e => h e.symm
   refine ⟨by simp [Lib.hasPrefix, List.isPrefixOf, h'], fun t' e => ?_⟩
   simp at e; exact h e.1
theorem gQ_ {r : List UInt8} (h : ∀ t, r.dropWhile bw_ ≠ 46 :: t) : cv_ r = [] := by
 unfold cv_
 split
 ·rename_i t e; exact absurd e (h t)
 ·rfl
theorem iy_ {r t : List UInt8} (h : r.dropWhile bw_ = 46 :: t) : cv_ r = t.takeWhile bw_ := by
 unfold cv_; rw [h]; rfl
theorem gJ_ (l : List UInt8) : ∀ b ∈ l.takeWhile bw_, 48 ≤ b.toNat ∧ b.toNat ≤ 57 := by
 intro b hb
 have := List.all_takeWhile (p := bw_) (l := l)
 exact j3_ (List.all_eq_true.1 this b hb)
theorem pc_ {f : List UInt8} (h : ∀ b ∈ f, 48 ≤ b.toNat ∧ b.toNat ≤ 57) : ∀ b ∈ six f, 48 ≤ b.toNat ∧ b.toNat ≤ 57 := by
 intro b hb
 have hb := List.mem_of_mem_take hb
 rcases List.mem_append.1 hb with q | q
 ·exact h b q
 ·have := List.eq_of_mem_replicate q; subst this; decide
def Ad_ : LC :=
 .seq (.ops [.ki 2 0]) (.seq (.ops [.m 10 0, .s 11 (.call 226 [.tmp 10, .const (.string ⟨#[43, 45]⟩)]), .m 3 11]) (.seq (.ops [.m 12 0, .m 13 0, .s 14 (.lenStr (.tmp 13)), .m 15 3, .s 16 (.lenStr (.tmp 15)), .bb 17 .sub
 false 14 16, .s 18 (.sliceStr (.tmp 12) none (some (.tmp 17))), .s 19 (.call 227 [.tmp 18, .const (.string ⟨#[45]⟩)]), .bk 20 .rem false 19 2, .bk 21 .eql false 20 1, .m 4 21]) (.seq (.ops [.m 22 3, .m 23 3, .c1 24 228
 23, .s 25 (.sliceStr (.tmp 22) none (some (.tmp 24))), .m 5 25]) (.seq (.ops [.s 6 (.mov (.const (.string ⟨#[]⟩)))]) (.seq (.seq (.ops [.m 27 3, .m 28 5, .s 29 (.lenStr (.tmp 28)), .s 30 (.sliceStr (.tmp 27) (some (.tmp
 29)) none), .s 31 (.call 229 [.tmp 30, .const (.string ⟨#[46]⟩)]), .m 26 31, .ex 32 26 0, .ex 33 26 1, .m 7 32, .m 8 33]) (.seq (.ops [.m 34 8]) (.cond (.tmp 34) (.ops [.m 35 7, .m 36 7, .c1 37 228 36, .s 38 (.sliceStr
 (.tmp 35) none (some (.tmp 37))), .m 6 38]) .skip))) (.seq (.ops [.m 39 5, .m 40 6, .s 41 (.bin .add false (.tmp 40) (.const (.string ⟨#[48, 48, 48, 48, 48, 48]⟩))), .s 42 (.sliceStr (.tmp 41) none (some (.const (.int
 .i64 6)))), .bb 43 .add false 39 42, .s 44 (.call 230 [.const (.int .i64 0), .tmp 43]), .m 9 44]) (.seq (.seq (.ops [.m 45 4]) (.cond (.tmp 45) (.seq (.ops [.m 46 9, .s 47 (.un .neg (.tmp 46)), .m 2 47]) .ret) .skip))
 (.seq (.ops [.m 48 9, .m 2 48]) .ret))))))))
def vW_ : LF := ⟨1, 49, Ad_, [.tmp 2]⟩
theorem AG_ : at_ Tryz.prog Tryz.f205 vW_ := ah_
theorem je_ (l : List UInt8) (hl : l.length ≤ 1900000) (h : List Row) : aa_ Tryz.prog 205 [.val (.string (txt l))] h (.val (.int .i64 (bH_ l))) := by
 refine aj_ mixed Tryz.func205 AG_ rfl rfl ?_ h
 have hw := ff_ c2_ l
 have hw2 := ff_ bw_ (l.dropWhile c2_)
 have e1 : ((l.length : Int) - ((l.dropWhile c2_).length : Int)) = ((l.takeWhile c2_).length : Int) := by omega
 have hsg : decide (((l.takeWhile c2_).count 45 : Int) % 2 = 1) = dF_ l := by
  unfold dF_; rw [Bool.eq_iff_iff]; simp; omega
 simp (disch := omega) only [vW_, Ad_, go_sem, reduceCtorEq, ↓reduceIte]
 refine aa_.call (f3_ l _ (by decide) (by decide) _) ?_
 rw [cT_ ox_]
 simp (disch := omega) only [e1, ga_, go_sem, Nat.reduceEqDiff, reduceCtorEq, ↓reduceIte]
 refine aa_.call (kW_ _ 45 _) ?_
 simp (disch := omega) only [hsg, go_sem, Nat.reduceEqDiff, ↓reduceIte]
 have hr : (l.dropWhile c2_) = bn_ l := rfl
 rw [hr] at hw2 hw ⊢
 refine aa_.call (g8_ _ (by omega) _) ?_
 simp (disch := omega) only [ga_, ma_, List.take_length, go_sem, Nat.reduceEqDiff, ↓reduceIte]
 refine aa_.call (iB_ _ _ _) ?_
 have hz := iU_ (cv_ (bn_ l))
 have hq : fa_ 0 ((bn_ l).takeWhile bw_ ++ six (cv_ (bn_ l))) = fc_ l := tq_ l
 have hfin : ∀ h, aa_ Tryz.prog 230 [.val (.int .i64 0), .val (.string (txt ((bn_ l).takeWhile bw_ ++ six (cv_ (bn_ l)))))] h (.val (.int .i64 (fc_ l))) := by
  intro h
  rw [← hq]
  refine lY_ 0 _ (by simp only [la_]; omega) (by decide) ?_ h
  intro b hb
  rcases List.mem_append.1 hb with q | q
  ·exact gJ_ _ b q
  ·exact pc_ (fun b hb => by
    rcases vf_ ((bn_ l).dropWhile bw_) with ⟨t, e, _⟩ | ⟨_, e⟩
    ·rw [iy_ e] at hb; exact gJ_ _ b hb
    ·rw [gQ_ e] at hb; simp at hb) b q
 have hle := jE_ l
 rcases vf_ ((bn_ l).dropWhile bw_) with ⟨t, e, e2, e3⟩ | ⟨e2, e⟩
 ·have hfr := iy_ e
  have hlt : t.length + 1 ≤ (bn_ l).length := by rw [e] at hw2; simp at hw2; omega
  have hlt2 := ff_ bw_ t
  simp (disch := (try simp only [la_, lc_, ln_]); omega) only [e2, e3, go_sem, Nat.reduceEqDiff, ↓reduceIte]
  refine aa_.call (g8_ t (by omega) _) ?_
  have hsix : (t.takeWhile bw_ ++ [48, 48, 48, 48, 48, 48]).take 6 = six (cv_ (bn_ l)) := by rw [hfr]; rfl
  simp (disch := (try simp only [la_, lc_, ln_]); omega) only [ga_, hsix, go_sem, Nat.reduceEqDiff, Nat.reduceAdd, Nat.reduceLeDiff, Int.reduceLE, Int.reduceToNat, ↓reduceIte]
  refine aa_.call (hfin _) ?_
  simp (disch := (try simp only [la_, lc_, ln_]); omega) only [go_sem, Nat.reduceEqDiff, ↓reduceIte]
  refine al_ (fun hb => ?_) (fun hb => ?_)
  ·simp (disch := (try simp only [la_, lc_, ln_]); omega) only [go_sem, Nat.reduceEqDiff, ↓reduceIte]
   exact aH_ (by unfold bH_; rw [if_pos hb]; omega)
  ·simp (disch := (try simp only [la_, lc_, ln_]); omega) only [go_sem, Nat.reduceEqDiff, ↓reduceIte]
   exact aH_ (by unfold bH_; rw [if_neg (by rw [hb]; decide)])
 ·have hfr := gQ_ e
  have hsix2 : ([48, 48, 48, 48, 48, 48] : List UInt8) = six (cv_ (bn_ l)) := by rw [hfr]; rfl
  rw [← hsix2] at hfin
  simp (disch := (try simp only [la_, lc_, ln_]); omega) only [e2, go_sem, Nat.reduceEqDiff, Nat.reduceAdd, Int.reduceLE, Int.reduceToNat, ↓reduceIte]
  refine aa_.call (hfin _) ?_
  simp (disch := (try simp only [la_, lc_, ln_]); omega) only [go_sem, Nat.reduceEqDiff, ↓reduceIte]
  refine al_ (fun hb => ?_) (fun hb => ?_)
  ·simp (disch := (try simp only [la_, lc_, ln_]); omega) only [go_sem, Nat.reduceEqDiff, ↓reduceIte]
   exact aH_ (by unfold bH_; rw [if_pos hb]; omega)
  ·simp (disch := (try simp only [la_, lc_, ln_]); omega) only [go_sem, Nat.reduceEqDiff, ↓reduceIte]
   exact aH_ (by unfold bH_; rw [if_neg (by rw [hb]; decide)])
def id_ (n : Int) : Bool := dl_ n (-999999999999999999) 999999999999999999
def eA_ (n : Int) : List UInt8 := if id_ n then bK_ n else []
theorem gR_ (n : Int) : id_ n = true ↔ -999999999999999999 ≤ n ∧ n ≤ 999999999999999999 := by simp [id_, dl_]
theorem eD_ (u : Nat) : Lib.itoa (u : Int) = Lib.decDigits u := by
 unfold Lib.itoa
 rw [if_neg (by omega)]; simp
theorem gk_ (b : UInt8) : ([48] : List UInt8).contains b = (b == 48) := by
 rw [Bool.eq_iff_iff]; simp
theorem cL_ (u : Nat) (h : u ≠ 0) : cW_ u = (if 1000000 ≤ u then Lib.decDigits (u / 1000000) else []) ++ (if 0 < u % 1000000 then 46 :: eO_ ((Lib.decDigits (1000000 + u % 1000000)).drop 1) else []) := by
 unfold cW_
 rw [if_neg h]
 congr 1
 ·unfold bO_
  by_cases q : 1000000 ≤ u
  ·rw [if_neg (by omega), if_pos q]
  ·rw [if_pos (by omega), if_neg q]
 ·unfold iZ_
  by_cases q : 0 < u % 1000000
  ·rw [if_neg (by omega), if_pos q]
  ·rw [if_pos (by omega), if_neg q]
theorem fh_ (u : Nat) (h : u ≤ 999999999999999999) : (Lib.decDigits u).length ≤ 20 ∧ 1 ≤ (Lib.decDigits u).length := by
 rw [Lib.decDigits_eq]
 simp only [List.length_map, List.length_range]
 have := gV_ 18 u (by omega)
 constructor
 ·omega
 ·unfold Lib.nDigits; split <;> omega
def Ac_ : LC :=
 .seq (.ops [.s 2 (.mov (.const (.string ⟨#[]⟩)))]) (.seq (.seq (.ops [.m 5 0, .c1 6 235 5, .nt 7 6]) (.cond (.tmp 7) (.seq (.ops [.s 2 (.mov (.const (.string ⟨#[]⟩)))]) .ret) .skip)) (.seq (.seq (.ops [.m 8 0, .bk 9 .eql
 false 8 0]) (.cond (.tmp 9) (.seq (.ops [.s 2 (.mov (.const (.string ⟨#[48]⟩)))]) .ret) .skip)) (.seq (.ops [.s 3 (.mov (.const (.string ⟨#[]⟩)))]) (.seq (.seq (.ops [.m 10 0, .bk 11 .lss false 10 0]) (.cond (.tmp 11)
 (.ops [.m 12 0, .s 13 (.un .neg (.tmp 12)), .s 3 (.mov (.const (.string ⟨#[45]⟩))), .m 0 13]) .skip)) (.seq (.seq (.ops [.m 14 0, .bk 15 .geq false 14 1000000]) (.cond (.tmp 15) (.ops [.m 16 3, .m 17 0, .bk 18 .quo false
 17 1000000, .s 19 (.call 236 [.tmp 18, .const (.int .i64 10)]), .bb 20 .add false 16 19, .m 3 20]) .skip)) (.seq (.seq (.ops [.m 21 0, .bk 22 .rem false 21 1000000, .m 4 22]) (.seq (.ops [.m 23 4, .bk 24 .gtr false 23
 0]) (.cond (.tmp 24) (.ops [.m 25 3, .m 26 4, .s 27 (.bin .add false (.const (.int .i64 1000000)) (.tmp 26)), .s 28 (.call 236 [.tmp 27, .const (.int .i64 10)]), .s 29 (.sliceStr (.tmp 28) (some (.const (.int .i64 1)))
 none), .s 30 (.call 237 [.tmp 29, .const (.string ⟨#[48]⟩)]), .s 31 (.bin .add false (.const (.string ⟨#[46]⟩)) (.tmp 30)), .bb 32 .add false 25 31, .m 3 32]) .skip))) (.seq (.ops [.m 33 3, .m 2 33]) .ret)))))))
def uE_ : LF := ⟨1, 34, Ac_, [.tmp 2]⟩
theorem zd_ : at_ Tryz.prog Tryz.f224 uE_ := ah_
theorem hK_ (n : Int) (h : List Row) : aa_ Tryz.prog 224 [.val (.int .i64 n)] h (.val (.string (txt (eA_ n)))) := by
 refine aj_ mixed Tryz.func224 zd_ rfl rfl ?_ h
 simp (disch := (try simp only [la_, lc_, ln_]); omega) only [uE_, Ac_, go_sem, reduceCtorEq, ↓reduceIte]
 refine aa_.call (nb_ n _) ?_
 by_cases hn : id_ n = true
 ·have hn' := (gR_ n).1 hn
  have hn2 : dl_ n (-999999999999999999) 999999999999999999 = true := hn
  have hres : eA_ n = bK_ n := by unfold eA_; rw [if_pos hn]
  by_cases h0 : n = 0
  ·subst h0
   simp (disch := (try simp only [la_, lc_, ln_]); omega) only [hn2, go_sem, reduceCtorEq, Int.reduceNeg, ↓reduceIte]
   exact by_ (by rw [hres]; congr 1)
  ·obtain ⟨u, hu⟩ : ∃ u : Nat, u = n.natAbs := ⟨_, rfl⟩
   have hu0 : u ≠ 0 := by omega
   have e2 : ((u : Int) / 1000000) = ((u / 1000000 : Nat) : Int) := by omega
   have e3 : ((u : Int) % 1000000) = ((u % 1000000 : Nat) : Int) := by omega
   have e4 : ((1000000 : Int) + ((u % 1000000 : Nat) : Int)) = ((1000000 + u % 1000000 : Nat) : Int) := by omega
   have hd1 := fh_ (u / 1000000) (by omega)
   have hd2 := fh_ (1000000 + u % 1000000) (by omega)
   by_cases hneg : n < 0
   ·have e1 : (0 - n) = (u : Int) := by omega
    have hs : (n < 0) = True := eq_true hneg
    have hnt : bK_ n = [45] ++ cW_ u := by unfold bK_; rw [if_pos hneg, ← hu]; rfl
    by_cases q1 : 1000000 ≤ u
    ·have hq1 : ((1000000 : Int) ≤ u) = True := by first | (simp; done) | (simp; omega)
     by_cases q2 : 0 < u % 1000000
     ·have hq2 : ((0 : Int) < ((u % 1000000 : Nat) : Int)) = True := by first | (simp; done) | (simp; omega)
      simp (disch := (try simp only [la_, lc_, ln_]); omega) only [hn2, h0, hs, e2, hq1, e1, go_sem, Nat.reduceEqDiff, reduceCtorEq, Int.reduceNeg, ↓reduceIte]
      refine aa_.call (bE_ _ (by omega) (by omega) _) ?_
      rw [eD_]
      simp (disch := (try simp only [la_, lc_, ln_]); omega) only [e3, hq2, go_sem, Nat.reduceEqDiff, reduceCtorEq, ↓reduceIte]
      refine aa_.call (bE_ _ (by omega) (by omega) _) ?_
      rw [e4, eD_]
      simp (disch := (try simp only [la_, lc_, ln_]); omega) only [List.take_length, go_sem, Int.reduceLE, Int.reduceToNat, ↓reduceIte]
      refine aa_.call (da_ _ _ (by simp only [List.length_drop]; omega) (by decide) (by decide) _) ?_
      rw [cT_ gk_, ← eO_]
      have htl := ew_ ((Lib.decDigits (1000000 + u % 1000000)).drop 1)
      rw [List.length_drop] at htl
      simp (disch := (try simp only [la_, lc_, ln_]); omega) only [go_sem, Nat.reduceEqDiff, ↓reduceIte]
      exact by_ (by rw [hres, hnt, cL_ u hu0, if_pos q1, if_pos q2]; simp)
     ·have hq2 : ((0 : Int) < ((u % 1000000 : Nat) : Int)) = False := by first | (simp; done) | (simp; omega)
      simp (disch := (try simp only [la_, lc_, ln_]); omega) only [hn2, h0, hs, e2, hq1, e1, go_sem, Nat.reduceEqDiff, reduceCtorEq, Int.reduceNeg, ↓reduceIte]
      refine aa_.call (bE_ _ (by omega) (by omega) _) ?_
      rw [eD_]
      simp (disch := (try simp only [la_, lc_, ln_]); omega) only [e3, hq2, go_sem, Nat.reduceEqDiff, reduceCtorEq, ↓reduceIte]
      exact by_ (by rw [hres, hnt, cL_ u hu0, if_pos q1, if_neg q2]; simp)
    ·have hq1 : ((1000000 : Int) ≤ u) = False := by first | (simp; done) | (simp; omega)
     by_cases q2 : 0 < u % 1000000
     ·have hq2 : ((0 : Int) < ((u % 1000000 : Nat) : Int)) = True := by first | (simp; done) | (simp; omega)
      simp (disch := (try simp only [la_, lc_, ln_]); omega) only [hn2, h0, hs, e3, hq1, hq2, e1, go_sem, Nat.reduceEqDiff, reduceCtorEq, Int.reduceNeg, ↓reduceIte]
      refine aa_.call (bE_ _ (by omega) (by omega) _) ?_
      rw [e4, eD_]
      simp (disch := (try simp only [la_, lc_, ln_]); omega) only [List.take_length, go_sem, Int.reduceLE, Int.reduceToNat, ↓reduceIte]
      refine aa_.call (da_ _ _ (by simp only [List.length_drop]; omega) (by decide) (by decide) _) ?_
      rw [cT_ gk_, ← eO_]
      have htl := ew_ ((Lib.decDigits (1000000 + u % 1000000)).drop 1)
      rw [List.length_drop] at htl
      simp (disch := (try simp only [la_, lc_, ln_]); omega) only [go_sem, Nat.reduceEqDiff, ↓reduceIte]
      exact by_ (by rw [hres, hnt, cL_ u hu0, if_neg q1, if_pos q2]; simp)
     ·have hq2 : ((0 : Int) < ((u % 1000000 : Nat) : Int)) = False := by first | (simp; done) | (simp; omega)
      simp (disch := (try simp only [la_, lc_, ln_]); omega) only [hn2, h0, hs, e3, hq1, hq2, e1, go_sem, Nat.reduceEqDiff, reduceCtorEq, Int.reduceNeg, ↓reduceIte]
      exact by_ (by rw [hres, hnt, cL_ u hu0, if_neg q1, if_neg q2]; simp)
   ·have e1 : n = (u : Int) := by omega
    have hs : ((u : Int) < 0) = False := by first | (simp; done) | (simp; omega)
    have hnt : bK_ n = [] ++ cW_ u := by unfold bK_; rw [if_neg hneg, ← hu]; rfl
    clear hu
    subst e1
    by_cases q1 : 1000000 ≤ u
    ·have hq1 : ((1000000 : Int) ≤ u) = True := by first | (simp; done) | (simp; omega)
     by_cases q2 : 0 < u % 1000000
     ·have hq2 : ((0 : Int) < ((u % 1000000 : Nat) : Int)) = True := by first | (simp; done) | (simp; omega)
      simp (disch := (try simp only [la_, lc_, ln_]); omega) only [hn2, h0, hs, e2, hq1, go_sem, Nat.reduceEqDiff, reduceCtorEq, Int.reduceNeg, ↓reduceIte]
      refine aa_.call (bE_ _ (by omega) (by omega) _) ?_
      rw [eD_]
      simp (disch := (try simp only [la_, lc_, ln_]); omega) only [e3, hq2, go_sem, Nat.reduceEqDiff, reduceCtorEq, ↓reduceIte]
      refine aa_.call (bE_ _ (by omega) (by omega) _) ?_
      rw [e4, eD_]
      simp (disch := (try simp only [la_, lc_, ln_]); omega) only [List.take_length, go_sem, Int.reduceLE, Int.reduceToNat, ↓reduceIte]
      refine aa_.call (da_ _ _ (by simp only [List.length_drop]; omega) (by decide) (by decide) _) ?_
      rw [cT_ gk_, ← eO_]
      have htl := ew_ ((Lib.decDigits (1000000 + u % 1000000)).drop 1)
      rw [List.length_drop] at htl
      simp (disch := (try simp only [la_, lc_, ln_]); omega) only [go_sem, Nat.reduceEqDiff, ↓reduceIte]
      exact by_ (by rw [hres, hnt, cL_ u hu0, if_pos q1, if_pos q2]; simp)
     ·have hq2 : ((0 : Int) < ((u % 1000000 : Nat) : Int)) = False := by first | (simp; done) | (simp; omega)
      simp (disch := (try simp only [la_, lc_, ln_]); omega) only [hn2, h0, hs, e2, hq1, go_sem, Nat.reduceEqDiff, reduceCtorEq, Int.reduceNeg, ↓reduceIte]
      refine aa_.call (bE_ _ (by omega) (by omega) _) ?_
      rw [eD_]
      simp (disch := (try simp only [la_, lc_, ln_]); omega) only [e3, hq2, go_sem, Nat.reduceEqDiff, reduceCtorEq, ↓reduceIte]
      exact by_ (by rw [hres, hnt, cL_ u hu0, if_pos q1, if_neg q2]; simp)
    ·have hq1 : ((1000000 : Int) ≤ u) = False := by first | (simp; done) | (simp; omega)
     by_cases q2 : 0 < u % 1000000
     ·have hq2 : ((0 : Int) < ((u % 1000000 : Nat) : Int)) = True := by first | (simp; done) | (simp; omega)
      simp (disch := (try simp only [la_, lc_, ln_]); omega) only [hn2, h0, hs, e3, hq1, hq2, go_sem, Nat.reduceEqDiff, reduceCtorEq, Int.reduceNeg, ↓reduceIte]
      refine aa_.call (bE_ _ (by omega) (by omega) _) ?_
      rw [e4, eD_]
      simp (disch := (try simp only [la_, lc_, ln_]); omega) only [List.take_length, go_sem, Int.reduceLE, Int.reduceToNat, ↓reduceIte]
      refine aa_.call (da_ _ _ (by simp only [List.length_drop]; omega) (by decide) (by decide) _) ?_
      rw [cT_ gk_, ← eO_]
      have htl := ew_ ((Lib.decDigits (1000000 + u % 1000000)).drop 1)
      rw [List.length_drop] at htl
      simp (disch := (try simp only [la_, lc_, ln_]); omega) only [go_sem, Nat.reduceEqDiff, ↓reduceIte]
      exact by_ (by rw [hres, hnt, cL_ u hu0, if_neg q1, if_pos q2]; simp)
     ·have hq2 : ((0 : Int) < ((u % 1000000 : Nat) : Int)) = False := by first | (simp; done) | (simp; omega)
      simp (disch := (try simp only [la_, lc_, ln_]); omega) only [hn2, h0, hs, e3, hq1, hq2, go_sem, Nat.reduceEqDiff, reduceCtorEq, Int.reduceNeg, ↓reduceIte]
      exact by_ (by rw [hres, hnt, cL_ u hu0, if_neg q1, if_neg q2]; simp)
 ·have hn2 : dl_ n (-999999999999999999) 999999999999999999 = false := by simpa [id_] using hn
  simp (disch := (try simp only [la_, lc_, ln_]); omega) only [hn2, go_sem, Int.reduceNeg, ↓reduceIte]
  exact by_ (by unfold eA_; rw [if_neg hn])
def yX_ : LC :=
 .seq (.ops [.s 2 (.mov (.const (.bool false)))]) (.seq (.ops [.m 3 0, .c1 4 205 3, .c1 5 224 4, .m 6 0, .bb 7 .eql false 5 6, .m 2 7]) .ret)
def u9_ : LF := ⟨1, 8, yX_, [.tmp 2]⟩
theorem yw_ : at_ Tryz.prog Tryz.f203 u9_ := ah_
theorem rM_ (l : List UInt8) : eA_ (bH_ l) = bK_ (bH_ l) := by
 unfold eA_; rw [if_pos ((gR_ _).2 (ej_ l))]
theorem lI_ (l : List UInt8) (hl : l.length ≤ 1900000) (h : List Row) : aa_ Tryz.prog 203 [.val (.string (txt l))] h (.val (.bool (bJ_ l))) := by
 refine aj_ mixed Tryz.func203 yw_ rfl rfl ?_ h
 simp (disch := (try simp only [la_, lc_, ln_]); omega) only [u9_, yX_, go_sem, reduceCtorEq, ↓reduceIte]
 refine aa_.call (je_ l hl _) ?_
 simp (disch := (try simp only [la_, lc_, ln_]); omega) only [go_sem, ↓reduceIte]
 refine aa_.call (hK_ _ _) ?_
 simp (disch := (try simp only [la_, lc_, ln_]); omega) only [rM_, go_sem, Nat.reduceEqDiff, reduceCtorEq, ↓reduceIte]
 exact ad_ rfl
end Go.Proofs.YtfplhbjggecnpaaGreatDoor
namespace Go.Proofs.YtfplhbjggecnpaaGreatDoor
open Go.AW
set_option linter.unusedVariables false
set_option linter.unusedSimpArgs false
set_option maxRecDepth 4000
def sR_ : LC :=
 .seq (.ops [.s 2 (.mov (.const (.string ⟨#[]⟩)))]) (.seq (.seq (.ops [.m 3 0, .bk 4 .eql false 3 0]) (.cond (.tmp 4) (.seq (.ops [.s 2 (.mov (.const (.string ⟨#[]⟩)))]) .ret) .skip)) (.seq (.dops [.m 5 0, .bk 6 .quo
 false 5 10, .c1 7 223 6, .m 8 0, .bk 9 .rem false 8 10, .s 10 (.bin .add false (.const (.int .i64 48)) (.tmp 9)), .s 11 (.convInt .u8 (.tmp 10)), .s 12 (.buildImm 5 1 (.int .u8 0) 1 [(0, .tmp 11)]), .s 13 (.toStr (.tmp
 12)), .bb 14 .add false 7 13, .m 2 14]) .ret))
def rt_ : LF := ⟨1, 15, sR_, [.tmp 2]⟩
theorem w4_ : at_ Tryz.prog Tryz.f223 rt_ := ah_
theorem pF_ (u : Nat) (h : u ≠ 0) : bO_ u = bO_ (u / 10) ++ [UInt8.ofNat (48 + u % 10)] := by
 unfold bO_
 rw [if_neg h, Lib.decDigits]
 by_cases q : u < 10
 ·rw [dif_pos q, if_pos (by omega)]
  have : u % 10 = u := by omega
  rw [this]; rfl
 ·rw [dif_neg q, if_neg (by omega)]
theorem lr_ (u : Nat) (h : u ≤ 999999999999999999) : (bO_ u).length ≤ 20 := by
 unfold bO_; split
 ·simp
 ·exact (fh_ u h).1
theorem hl_ (u : Nat) : u ≤ 999999999999999999 → ∀ h : List Row, aa_ Tryz.prog 223 [.val (.int .i64 u)] h (.val (.string (txt (bO_ u)))) := by
 induction u using Nat.strongRecOn with
 | _ u ih =>
 intro hu h
 refine aj_ mixed Tryz.func223 w4_ rfl rfl ?_ h
 by_cases h0 : u = 0
 ·subst h0
  simp (disch := (try simp only [la_, lc_, ln_]); omega) only [rt_, sR_, go_sem, reduceCtorEq, ↓reduceIte]
  exact by_ rfl
 ·have h0' : ((u : Int) = 0) = False := by first | (simp; done) | (simp; omega)
  have e2 : ((u : Int) / 10) = ((u / 10 : Nat) : Int) := by omega
  have hl := lr_ (u / 10) (by omega)
  have e5 : UInt8.ofNat (48 + (u : Int) % 10).toNat = UInt8.ofNat (48 + u % 10) := by first | (congr 1; done) | (congr 1; omega)
  simp (disch := (try simp only [la_, lc_, ln_]); omega) only [rt_, sR_, h0', e2, go_sem, Nat.reduceEqDiff, reduceCtorEq, ↓reduceIte]
  refine aa_.q (ih (u / 10) (by omega) (by omega) _) ?_
  simp (disch := (try simp only [la_, lc_, ln_]); omega) only [e5, go_sem]
  exact by_ (by rw [pF_ u h0])
def tC_ : LC :=
 .seq (.ops [.s 2 (.mov (.const (.string ⟨#[]⟩)))]) (.seq (.seq (.ops [.m 6 0, .bk 7 .lss false 6 0]) (.cond (.tmp 7) (.seq (.ops [.m 8 0, .s 9 (.un .neg (.tmp 8)), .c1 10 196 9, .s 11 (.bin .add false (.const (.string
 ⟨#[45]⟩)) (.tmp 10)), .m 2 11]) .ret) .skip)) (.seq (.ops [.m 12 0, .bk 13 .quo false 12 1000000, .c1 14 223 13, .m 3 14]) (.seq (.ops [.m 15 0, .bk 16 .rem false 15 1000000, .m 4 16]) (.seq (.seq (.ops [.m 17 4, .bk 18
 .gtr false 17 0]) (.cond (.tmp 18) (.seq (.ops [.m 19 4, .s 20 (.bin .add false (.const (.int .i64 1000000)) (.tmp 19)), .c1 21 223 20, .s 22 (.sliceStr (.tmp 21) (some (.const (.int .i64 1))) none), .m 5 22]) (.seq
 (.block 0 (.loop (.seq (.seq (.ops [.m 23 5, .m 24 5, .s 25 (.lenStr (.tmp 24)), .bk 26 .sub false 25 1, .s 27 (.indexStr (.tmp 23) (.tmp 26)), .s 28 (.bin .eql false (.tmp 27) (.const (.int .u8 48)))]) (.cond (.tmp 28)
 .skip (.exit 0))) (.block 1 (.ops [.m 29 5, .m 30 5, .s 31 (.lenStr (.tmp 30)), .bk 32 .sub false 31 1, .s 33 (.sliceStr (.tmp 29) none (some (.tmp 32))), .m 5 33]))))) (.ops [.m 34 3, .m 35 5, .s 36 (.bin .add false
 (.const (.string ⟨#[46]⟩)) (.tmp 35)), .bb 37 .add false 34 36, .m 3 37]))) .skip)) (.seq (.seq (.ops [.m 38 3, .s 39 (.bin .eql false (.tmp 38) (.const (.string ⟨#[]⟩)))]) (.cond (.tmp 39) (.seq (.ops [.s 2 (.mov
 (.const (.string ⟨#[48]⟩)))]) .ret) .skip)) (.seq (.ops [.m 40 3, .m 2 40]) .ret))))))
def qW_ : LF := ⟨1, 41, tC_, [.tmp 2]⟩
theorem rU_ : at_ Tryz.prog Tryz.f196 qW_ := ah_
theorem q9_ (f : List UInt8) (h : f ≠ []) : eO_ f = if f.getLast h = 48 then eO_ f.dropLast else f := by
 have e : f = f.dropLast ++ [f.getLast h] := (List.dropLast_concat_getLast h).symm
 unfold eO_
 by_cases q : f.getLast h = 48
 ·rw [if_pos q]
  conv => lhs; rw [e]
  rw [List.reverse_append, List.reverse_singleton, List.singleton_append, List.dropWhile_cons, q]
  rfl
 ·rw [if_neg q]
  conv => lhs; rw [e]
  rw [List.reverse_append, List.reverse_singleton, List.singleton_append, List.dropWhile_cons]
  have : (f.getLast h == 48) = false := by simpa using q
  rw [this]
  simp only [Bool.false_eq_true, if_false, List.reverse_cons, List.reverse_reverse]
  exact e.symm
theorem hf_ (u : Nat) (hu : u ≤ 999999999999999999) (h : List Row) : aa_ Tryz.prog 196 [.val (.int .i64 u)] h (.val (.string (txt (cW_ u)))) := by
 refine aj_ mixed Tryz.func196 rU_ rfl rfl ?_ h
 have hs : ((u : Int) < 0) = False := by first | (simp; done) | (simp; omega)
 have e2 : ((u : Int) / 1000000) = ((u / 1000000 : Nat) : Int) := by omega
 have e3 : ((u : Int) % 1000000) = ((u % 1000000 : Nat) : Int) := by omega
 have e4 : ((1000000 : Int) + ((u % 1000000 : Nat) : Int)) = ((1000000 + u % 1000000 : Nat) : Int) := by omega
 have hw1 := lr_ (u / 1000000) (by omega)
 simp (disch := (try simp only [la_, lc_, ln_]); omega) only [qW_, tC_, hs, e2, go_sem, reduceCtorEq, ↓reduceIte]
 refine aa_.call (hl_ (u / 1000000) (by omega) _) ?_
 by_cases q2 : 0 < u % 1000000
 ·have hq2 : ((0 : Int) < ((u % 1000000 : Nat) : Int)) = True := by first | (simp; done) | (simp; omega)
  have hd2 := fh_ (1000000 + u % 1000000) (by omega)
  simp (disch := (try simp only [la_, lc_, ln_]); omega) only [hq2, e3, e4, go_sem, Nat.reduceEqDiff, reduceCtorEq, ↓reduceIte]
  refine aa_.call (hl_ (1000000 + u % 1000000) (by omega) _) ?_
  have hwd : bO_ (1000000 + u % 1000000) = Lib.decDigits (1000000 + u % 1000000) := by unfold bO_; rw [if_neg (by omega)]
  rw [hwd]
  simp (disch := (try simp only [la_, lc_, ln_]); omega) only [List.take_length, go_sem, Int.reduceLE, Int.reduceToNat, ↓reduceIte]
  obtain ⟨b0, hb0, hb48⟩ := rY_ (r := u % 1000000) (by omega) (by omega)
  refine aK_ (fun m t h => ∃ f : List UInt8, t 5 = .val (.string (txt f)) ∧ t 3 = .val (.string (txt (bO_ (u / 1000000)))) ∧ m = f.length ∧ f.length ≤ 20 ∧ (∃ b ∈ f, b ≠ 48) ∧ eO_ ((Lib.decDigits (1000000 + u % 1000000)).drop 1) = eO_ f) _ ⟨_, rfl, rfl, rfl, ?_, ⟨b0, hb0, hb48⟩, rfl⟩ ?_
  ·rw [List.length_drop]; omega
  ·rintro J hJ m t h ⟨f, t5, t3, rfl, hf, ⟨b, hb, hbn⟩, hT⟩
   have hne : f ≠ [] := by intro e; subst e; simp at hb
   have hpos : 0 < f.length := List.length_pos_iff.2 hne
   have hlast : f[f.length - 1]? = some (f.getLast hne) := by rw [List.getLast_eq_getElem, List.getElem?_eq_getElem (by omega)]
   have hsub : ((f.length : Int) - 1) = ((f.length - 1 : Nat) : Int) := by omega
   rw [q9_ f hne] at hT
   by_cases q : f.getLast hne = 48
   ·rw [if_pos q] at hT
    have q' : (((f.getLast hne).toNat : Int) = 48) = True := eq_true (by rw [q]; rfl)
    simp (disch := (try simp only [la_, lc_, ln_]); omega) only [t5, hsub, hlast, q', go_sem, Nat.reduceEqDiff, ↓reduceIte]
    refine ⟨f.length - 1, by omega, hJ _ _ _ ⟨f.dropLast, by simp [upd, List.dropLast_eq_take], by simp [upd, t3], by simp, by simp; omega, ⟨b, ?_, hbn⟩, hT⟩⟩
    have e : f = f.dropLast ++ [f.getLast hne] := (List.dropLast_concat_getLast hne).symm
    rw [e] at hb
    rcases List.mem_append.1 hb with z | z
    ·exact z
    ·simp at z; rw [q] at z; exact absurd z hbn
   ·rw [if_neg q] at hT
    have q' : (((f.getLast hne).toNat : Int) = 48) = False := by
     have := nG_ (f.getLast hne) 48
     rw [show ((UInt8.toNat 48 : Nat) : Int) = 48 from rfl] at this
     rw [this]; simp [q]
    have hne2 : (bO_ (u / 1000000) ++ 46 :: f = []) = False := by simp
    simp (disch := (try simp only [la_, lc_, ln_]); omega) only [t5, t3, hsub, hlast, q', hne2, go_sem, Nat.reduceEqDiff, ↓reduceIte]
    exact by_ (by rw [cW_, if_neg (by omega), iZ_, if_neg (by omega), hT])
 ·have hq2 : ((0 : Int) < ((u % 1000000 : Nat) : Int)) = False := by first | (simp; done) | (simp; omega)
  simp (disch := (try simp only [la_, lc_, ln_]); omega) only [hq2, e3, go_sem, Nat.reduceEqDiff, reduceCtorEq, ↓reduceIte]
  by_cases hu0 : u = 0
  ·subst hu0
   have : (bO_ (0 / 1000000) = []) = True := by simp [bO_]
   simp (disch := (try simp only [la_, lc_, ln_]); omega) only [this, go_sem, ↓reduceIte]
   exact by_ rfl
  ·have : (bO_ (u / 1000000) = []) = False := by
    have hx : u / 1000000 ≠ 0 := by omega
    simp [bO_, hx, jP_]
   simp (disch := (try simp only [la_, lc_, ln_]); omega) only [this, go_sem, Nat.reduceEqDiff, ↓reduceIte]
   exact by_ (by rw [cW_, if_neg hu0, iZ_, if_pos (by omega)]; simp)
theorem pK_ (n : Int) (h : n < 0) : bK_ n = 45 :: cW_ n.natAbs := by unfold bK_; rw [if_pos h]
theorem pn_ (n : Int) (h : 0 ≤ n) : bK_ n = cW_ n.natAbs := by unfold bK_; rw [if_neg (by omega)]
theorem hv_ (n : Int) (h1 : -999999999999999999 ≤ n) (h2 : n ≤ 999999999999999999) (h : List Row) : aa_ Tryz.prog 196 [.val (.int .i64 n)] h (.val (.string (txt (bK_ n)))) := by
 by_cases hneg : n < 0
 ·refine aj_ mixed Tryz.func196 rU_ rfl rfl ?_ h
  have e1 : (0 - n) = ((n.natAbs : Nat) : Int) := by omega
  have hl := iq_ (u := n.natAbs) (by omega)
  simp (disch := (try simp only [la_, lc_, ln_]); omega) only [qW_, tC_, hneg, e1, go_sem, reduceCtorEq, ↓reduceIte]
  refine aa_.call (hf_ n.natAbs (by omega) _) ?_
  simp (disch := (try simp only [la_, lc_, ln_]); omega) only [go_sem, ↓reduceIte]
  exact by_ (by rw [pK_ n hneg])
 ·have e : n = ((n.natAbs : Nat) : Int) := by omega
  rw [pn_ n (by omega)]
  have := hf_ n.natAbs (by omega) h
  rw [← e] at this
  exact this
theorem uu_ {l : List UInt8} {k : Nat} (hk : k < l.length) (hs : c2_ l[k] = true) {m : Bool} (h : dF_ l = (m != (((l.drop k).takeWhile c2_).count 45 % 2 == 1))) :
 dF_ l = ((m != (l[k] == 45)) != (((l.drop (k + 1)).takeWhile c2_).count 45 % 2 == 1)) := by
 rw [h, cn_ l k hk, List.takeWhile_cons, if_pos hs, List.count_cons]
 generalize ((l.drop (k + 1)).takeWhile c2_).count 45 = c
 by_cases q : l[k] = 45
 ·rw [q]
  have h1 : ((c + 1) % 2 == 1) = !(c % 2 == 1) := by
   rw [Bool.eq_iff_iff]; simp; omega
  simp only [BEq.rfl, if_true, h1]
  cases m <;> cases (c % 2 == 1) <;> rfl
 ·have q' : (l[k] == 45) = false := by simpa using q
  simp [q']
def w6_ : LC :=
 .seq (.ops [.ki 2 0]) (.seq (.ops [.ki 3 0]) (.seq (.ops [.s 4 (.mov (.const (.bool false)))]) (.seq (.block 0 (.loop (.seq (.seq (.ops [.m 7 3, .m 8 0, .s 9 (.lenStr (.tmp 8)), .bb 10 .lss false 7 9, .m 11 10, .g 12 11
 true (.mov (.tmp 0)), .g 13 11 true (.mov (.tmp 3)), .g 14 11 true (.indexStr (.tmp 12) (.tmp 13)), .g 15 11 true (.bin .eql false (.tmp 14) (.const (.int .u8 43))), .g 16 11 true (.mov (.tmp 15)), .g 17 16 false (.mov
 (.tmp 0)), .g 18 16 false (.mov (.tmp 3)), .g 19 16 false (.indexStr (.tmp 17) (.tmp 18)), .g 20 16 false (.bin .eql false (.tmp 19) (.const (.int .u8 45))), .g 21 11 true (.pick (.tmp 16) (.const (.bool true)) (.tmp
 20)), .pf 22 11 21]) (.cond (.tmp 22) .skip (.exit 0))) (.block 1 (.seq (.ops [.m 23 4, .m 24 0, .m 25 3, .s 26 (.indexStr (.tmp 24) (.tmp 25)), .s 27 (.bin .eql false (.tmp 26) (.const (.int .u8 45))), .bb 28 .neq true
 23 27, .m 4 28]) (.ops [.m 29 3, .bk 30 .add false 29 1, .m 3 30])))))) (.seq (.ops [.ki 5 0]) (.seq (.block 2 (.loop (.seq (.seq (.ops [.m 31 3, .m 32 0, .s 33 (.lenStr (.tmp 32)), .bb 34 .lss false 31 33, .m 35 34, .g
 36 35 true (.mov (.tmp 0)), .g 37 35 true (.mov (.tmp 3)), .g 38 35 true (.indexStr (.tmp 36) (.tmp 37)), .g 39 35 true (.call 220 [.tmp 38]), .pf 40 35 39]) (.cond (.tmp 40) .skip (.exit 2))) (.block 3 (.seq (.ops [.m
 41 5, .s 42 (.bin .mul false (.const (.int .i64 10)) (.tmp 41)), .m 43 0, .m 44 3, .s 45 (.indexStr (.tmp 43) (.tmp 44)), .s 46 (.bin .sub false (.tmp 45) (.const (.int .u8 48))), .s 47 (.convInt .i64 (.tmp 46)), .bb 48
 .add false 42 47, .s 49 (.call 234 [.tmp 48, .const (.int .i64 1000000000000)]), .m 5 49]) (.ops [.m 50 3, .bk 51 .add false 50 1, .m 3 51])))))) (.seq (.ops [.m 52 5, .bk 53 .mul false 52 1000000, .s 54 (.call 234 [.tmp
 53, .const (.int .i64 1000000000000000000)]), .m 5 54]) (.seq (.seq (.ops [.m 55 3, .m 56 0, .s 57 (.lenStr (.tmp 56)), .bb 58 .lss false 55 57, .m 59 58, .g 60 59 true (.mov (.tmp 0)), .g 61 59 true (.mov (.tmp 3)), .g
 62 59 true (.indexStr (.tmp 60) (.tmp 61)), .g 63 59 true (.bin .eql false (.tmp 62) (.const (.int .u8 46))), .pf 64 59 63]) (.cond (.tmp 64) (.seq (.ops [.ki 6 100000]) (.seq (.ops [.m 65 3, .bk 66 .add false 65 1, .m 3
 66]) (.block 4 (.loop (.seq (.seq (.ops [.m 67 3, .m 68 0, .s 69 (.lenStr (.tmp 68)), .bb 70 .lss false 67 69, .m 71 70, .g 72 71 true (.mov (.tmp 0)), .g 73 71 true (.mov (.tmp 3)), .g 74 71 true (.indexStr (.tmp 72)
 (.tmp 73)), .g 75 71 true (.call 220 [.tmp 74]), .pf 76 71 75]) (.cond (.tmp 76) .skip (.exit 4))) (.seq (.block 5 (.seq (.ops [.m 79 5, .m 80 0, .m 81 3, .s 82 (.indexStr (.tmp 80) (.tmp 81)), .s 83 (.bin .sub false
 (.tmp 82) (.const (.int .u8 48))), .s 84 (.convInt .i64 (.tmp 83)), .m 85 6, .bb 86 .mul false 84 85, .bb 87 .add false 79 86, .m 5 87]) (.ops [.m 88 6, .bk 89 .quo false 88 10, .m 6 89]))) (.ops [.m 77 3, .bk 78 .add
 false 77 1, .m 3 78]))))))) .skip)) (.seq (.ops [.m 90 5, .s 91 (.call 234 [.tmp 90, .const (.int .i64 999999999999999999)]), .m 5 91]) (.seq (.seq (.ops [.m 92 4]) (.cond (.tmp 92) (.seq (.ops [.m 93 5, .s 94 (.un .neg
 (.tmp 93)), .m 2 94]) .ret) .skip)) (.seq (.ops [.m 95 5, .m 2 95]) .ret))))))))))
def u1_ : LF := ⟨1, 96, w6_, [.tmp 2]⟩
theorem zX_ : at_ Tryz.prog Tryz.f222 u1_ := ah_
theorem gE_ (l : List UInt8) (hl : l.length ≤ 1900000) (h : List Row) : aa_ Tryz.prog 222 [.val (.string (txt l))] h (.val (.int .i64 (bH_ l))) := by
 refine aj_ mixed Tryz.func222 zX_ rfl rfl ?_ h
 simp (disch := (try simp only [la_, lc_, ln_]); omega) only [u1_, w6_, go_sem]
 refine h0_ (fun m t h => ∃ (k : Nat) (s : Bool), t 0 = .val (.string (txt l)) ∧ t 3 = .val (.int .i64 k) ∧ t 4 = .val (.bool s) ∧ m = l.length - k ∧ k ≤ l.length ∧ bn_ l = (l.drop k).dropWhile c2_ ∧ dF_ l = (s != (((l.drop k).takeWhile c2_).count 45 % 2 == 1))) l.length
  (fun t h => ∃ k : Nat, t 0 = .val (.string (txt l)) ∧ t 3 = .val (.int .i64 k) ∧ t 4 = .val (.bool (dF_ l)) ∧ k ≤ l.length ∧ bn_ l = l.drop k) ⟨0, false, rfl, rfl, rfl, rfl, Nat.zero_le _, rfl, by simp [dF_]⟩ ?_ ?_
 ·rintro J hJ k' hE m t h ⟨k, s, t0, t3, t4, rfl, hk, hR, hN⟩
  by_cases hlt : k < l.length
  ·have hu := lE_ l[k]
   have e43 := nG_ l[k] 43
   have e45 := nG_ l[k] 45
   rw [show ((UInt8.toNat 43 : Nat) : Int) = 43 from rfl] at e43
   rw [show ((UInt8.toNat 45 : Nat) : Int) = 45 from rfl] at e45
   by_cases hs : c2_ l[k] = true
   ·have hR' : bn_ l = (l.drop (k + 1)).dropWhile c2_ := by rw [hR, cn_ l k hlt, List.dropWhile_cons, if_pos hs]
    have hN' := uu_ hlt hs hN
    by_cases q : l[k] = 43
    ·have q45 : ¬ (l[k] = 45) := by rw [q]; decide
     have e43' := e43.trans (eq_true q)
     have e45' := e45.trans (eq_false q45)
     simp (disch := (try simp only [la_, lc_, ln_]); omega) only [t0, t3, t4, hlt, e43', e45', go_sem, Nat.reduceEqDiff, reduceCtorEq, ↓reduceIte]
     refine ⟨l.length - (k + 1), by omega, hJ _ _ _ ⟨k + 1, s, by simp [upd, t0], by simp [upd], by simp [upd], rfl, by omega, hR', ?_⟩⟩
     rw [hN', q]; simp
    ·have q45 : l[k] = 45 := by simpa [c2_, q] using hs
     have e43' := e43.trans (eq_false q)
     have e45' := e45.trans (eq_true q45)
     simp (disch := (try simp only [la_, lc_, ln_]); omega) only [t0, t3, t4, hlt, e43', e45', go_sem, Nat.reduceEqDiff, reduceCtorEq, ↓reduceIte]
     refine ⟨l.length - (k + 1), by omega, hJ _ _ _ ⟨k + 1, !s, by simp [upd, t0], by simp [upd], by simp [upd]; try cases s <;> rfl, rfl, by omega, hR', ?_⟩⟩
     rw [hN', q45]; cases s <;> simp
   ·have hs' : c2_ l[k] = false := by simpa using hs
    have q43 : ¬ (l[k] = 43) := by intro e; rw [e] at hs; exact hs rfl
    have q45 : ¬ (l[k] = 45) := by intro e; rw [e] at hs; exact hs rfl
    have e43' := e43.trans (eq_false q43)
    have e45' := e45.trans (eq_false q45)
    have hR' : bn_ l = l.drop k := by rw [hR, cn_ l k hlt, List.dropWhile_cons, hs']; rfl
    have hN' : dF_ l = s := by rw [hN, cn_ l k hlt, List.takeWhile_cons, hs']; simp
    simp (disch := (try simp only [la_, lc_, ln_]); omega) only [t0, t3, hlt, e43', e45', go_sem, Nat.reduceEqDiff, reduceCtorEq, ↓reduceIte]
    exact hE _ _ ⟨k, by simp [upd, t0], by simp [upd, t3], by simp [upd, t4, hN'], hk, hR'⟩
  ·have hR' : bn_ l = l.drop k := by rw [hR, List.drop_eq_nil_of_le (by omega)]; rfl
   have hN' : dF_ l = s := by rw [hN, List.drop_eq_nil_of_le (by omega)]; simp
   simp (disch := (try simp only [la_, lc_, ln_]); omega) only [t0, t3, hlt, go_sem, Nat.reduceEqDiff, reduceCtorEq, ↓reduceIte]
   exact hE _ _ ⟨k, by simp [upd, t0], by simp [upd, t3], by simp [upd, t4, hN'], hk, hR'⟩
 rintro t h ⟨k0, t0, t3, t4, hk0, hR⟩
 simp (disch := (try simp only [la_, lc_, ln_]); omega) only [go_sem]
 refine h0_ (fun m t h => ∃ (k n : Nat), t 0 = .val (.string (txt l)) ∧ t 3 = .val (.int .i64 k) ∧ t 4 = .val (.bool (dF_ l)) ∧ t 5 = .val (.int .i64 n) ∧ m = l.length - k ∧ k ≤ l.length ∧ n ≤ 1000000000000 ∧ (bn_ l).dropWhile bw_ = (l.drop k).dropWhile bw_ ∧ dj_ 0 (bn_ l) = dj_ n (l.drop k)) (l.length - k0)
  (fun t h => ∃ k : Nat, t 0 = .val (.string (txt l)) ∧ t 3 = .val (.int .i64 k) ∧ t 4 = .val (.bool (dF_ l)) ∧ t 5 = .val (.int .i64 (dj_ 0 (bn_ l) : Nat)) ∧ k ≤ l.length ∧ dj_ 0 (bn_ l) ≤ 1000000000000 ∧ (bn_ l).dropWhile bw_ = l.drop k) ⟨k0, 0, by simp [upd, t0], by simp [upd, t3], by simp [upd, t4], by simp [upd], rfl, hk0, by decide, by rw [hR], by rw [hR]⟩ ?_ ?_
 ·rintro J hJ k' hE m t h ⟨k, n, t0, t3, t4, t5, rfl, hk, hn, hD, hW⟩
  by_cases hlt : k < l.length
  ·have hu := lE_ l[k]
   simp (disch := (try simp only [la_, lc_, ln_]); omega) only [t0, t3, hlt, go_sem, Nat.reduceEqDiff, reduceCtorEq, ↓reduceIte]
   refine aa_.call (hj_ l[k] _) ?_
   by_cases hd : bw_ l[k] = true
   ·have hr := j3_ hd
    rw [cn_ l k hlt, dj_, if_pos hd] at hW
    rw [cn_ l k hlt, List.dropWhile_cons, if_pos hd] at hD
    simp (disch := (try simp only [la_, lc_, ln_]); omega) only [t0, t3, t5, hd, go_sem, Nat.reduceEqDiff, reduceCtorEq, ↓reduceIte]
    refine aa_.call (d0_ _ _ _) ?_
    simp (disch := (try simp only [la_, lc_, ln_]); omega) only [t3, go_sem, Nat.reduceEqDiff, ↓reduceIte]
    refine ⟨l.length - (k + 1), by omega, hJ _ _ _ ⟨k + 1, min (10 * n + dgt l[k]) 1000000000000, by simp [upd, t0], by simp [upd], by simp [upd, t4], ?_, rfl, by omega, by omega, hD, hW⟩⟩
    simp only [upd, dgt]; simp; omega
   ·have hd' : bw_ l[k] = false := by simpa using hd
    rw [cn_ l k hlt, dj_, if_neg hd] at hW
    have hD' : (bn_ l).dropWhile bw_ = l.drop k := by rw [hD, cn_ l k hlt, List.dropWhile_cons, hd']; rfl
    simp (disch := (try simp only [la_, lc_, ln_]); omega) only [hd', go_sem, Nat.reduceEqDiff, ↓reduceIte]
    exact hE _ _ ⟨k, by simp [upd, t0], by simp [upd, t3], by simp [upd, t4], by simp [upd, t5, hW], hk, by omega, hD'⟩
  ·rw [List.drop_eq_nil_of_le (by omega), dj_] at hW
   have hD' : (bn_ l).dropWhile bw_ = l.drop k := by rw [hD, List.drop_eq_nil_of_le (by omega)]; rfl
   simp (disch := (try simp only [la_, lc_, ln_]); omega) only [t0, t3, hlt, go_sem, Nat.reduceEqDiff, reduceCtorEq, ↓reduceIte]
   exact hE _ _ ⟨k, by simp [upd, t0], by simp [upd, t3], by simp [upd, t4], by simp [upd, t5, hW], hk, by omega, hD'⟩
 rintro t h ⟨k1, t0, t3, t4, t5, hk1, hwl, hD⟩
 simp (disch := (try simp only [la_, lc_, ln_]); omega) only [t5, go_sem, ↓reduceIte]
 refine aa_.call (d0_ _ _ _) ?_
 obtain ⟨n1, hn1⟩ : ∃ n1 : Nat, n1 = min (dj_ 0 (bn_ l) * 1000000) 1000000000000000000 := ⟨_, rfl⟩
 have en1 : min ((dj_ 0 (bn_ l) : Int) * 1000000) 1000000000000000000 = (n1 : Int) := by omega
 rw [en1]
 have hle := jE_ l
 have hab : min (n1 + c5_ 0 (six (cv_ (bn_ l)))) 999999999999999999 = fc_ l := by rw [hn1]; exact tx_ l
 have habI : ∀ x : Nat, x = n1 + c5_ 0 (six (cv_ (bn_ l))) → min (x : Int) 999999999999999999 = (fc_ l : Int) := by intro x hx; omega
 have hn1le : n1 ≤ 1000000000000000000 := by omega
 by_cases hlt : k1 < l.length
 case neg =>
  have hfr : cv_ (bn_ l) = [] := gQ_ (by rw [hD, List.drop_eq_nil_of_le (by omega)]; simp)
  have hz := habI n1 (by rw [hfr]; rfl)
  simp (disch := (try simp only [la_, lc_, ln_]); omega) only [t0, t3, hlt, go_sem, Nat.reduceEqDiff, reduceCtorEq, ↓reduceIte]
  refine aa_.call (d0_ _ _ _) ?_
  simp (disch := (try simp only [la_, lc_, ln_]); omega) only [t4, hz, go_sem, Nat.reduceEqDiff, ↓reduceIte]
  refine al_ (fun hb => ?_) (fun hb => ?_)
  ·simp (disch := (try simp only [la_, lc_, ln_]); omega) only [go_sem, Nat.reduceEqDiff, ↓reduceIte]
   exact aH_ (by unfold bH_; rw [if_pos hb]; omega)
  ·simp (disch := (try simp only [la_, lc_, ln_]); omega) only [go_sem, Nat.reduceEqDiff, ↓reduceIte]
   exact aH_ (by unfold bH_; rw [if_neg (by rw [hb]; decide)])
 have e46 := nG_ l[k1] 46
 rw [show ((UInt8.toNat 46 : Nat) : Int) = 46 from rfl] at e46
 by_cases hdot : l[k1] = 46
 case neg =>
  have e46' := e46.trans (eq_false hdot)
  have hfr : cv_ (bn_ l) = [] := gQ_ (by rw [hD, cn_ l k1 hlt]; intro t e; exact hdot (List.cons.inj e).1)
  have hz := habI n1 (by rw [hfr]; rfl)
  simp (disch := (try simp only [la_, lc_, ln_]); omega) only [t0, t3, hlt, e46', go_sem, Nat.reduceEqDiff, reduceCtorEq, ↓reduceIte]
  refine aa_.call (d0_ _ _ _) ?_
  simp (disch := (try simp only [la_, lc_, ln_]); omega) only [t4, hz, go_sem, Nat.reduceEqDiff, ↓reduceIte]
  refine al_ (fun hb => ?_) (fun hb => ?_)
  ·simp (disch := (try simp only [la_, lc_, ln_]); omega) only [go_sem, Nat.reduceEqDiff, ↓reduceIte]
   exact aH_ (by unfold bH_; rw [if_pos hb]; omega)
  ·simp (disch := (try simp only [la_, lc_, ln_]); omega) only [go_sem, Nat.reduceEqDiff, ↓reduceIte]
   exact aH_ (by unfold bH_; rw [if_neg (by rw [hb]; decide)])
 have e46' := e46.trans (eq_true hdot)
 have hfr : cv_ (bn_ l) = (l.drop (k1 + 1)).takeWhile bw_ := iy_ (by rw [hD, cn_ l k1 hlt, hdot])
 have hrun : n1 + c5_ 0 (six (cv_ (bn_ l))) = d2_ n1 100000 (l.drop (k1 + 1)) := by
  rw [hfr]; exact (iz_ (l.drop (k1 + 1)) n1 6 (by decide)).symm
 simp (disch := (try simp only [la_, lc_, ln_]); omega) only [t0, t3, hlt, e46', go_sem, Nat.reduceEqDiff, reduceCtorEq, ↓reduceIte]
 refine h0_ (fun m t h => ∃ (k n u : Nat), t 0 = .val (.string (txt l)) ∧ t 3 = .val (.int .i64 k) ∧ t 4 = .val (.bool (dF_ l)) ∧ t 5 = .val (.int .i64 n) ∧ t 6 = .val (.int .i64 u) ∧ m = l.length - k ∧ k ≤ l.length ∧ n + 10 * u ≤ 1000000000001000000 ∧ d2_ n1 100000 (l.drop (k1 + 1)) = d2_ n u (l.drop k)) (l.length - (k1 + 1))
  (fun t h => t 4 = .val (.bool (dF_ l)) ∧ t 5 = .val (.int .i64 (d2_ n1 100000 (l.drop (k1 + 1)) : Nat))) ⟨k1 + 1, n1, 100000, by simp [upd, t0], by simp [upd], by simp [upd, t4], by simp [upd], by simp [upd], rfl, by omega, by omega, rfl⟩ ?_ ?_
 ·rintro J hJ k' hE m t h ⟨k, n, u, t0, t3, t4, t5, t6, rfl, hk, hb, hF⟩
  by_cases hlt : k < l.length
  ·have hu := lE_ l[k]
   simp (disch := (try simp only [la_, lc_, ln_]); omega) only [t0, t3, hlt, go_sem, Nat.reduceEqDiff, reduceCtorEq, ↓reduceIte]
   refine aa_.call (hj_ l[k] _) ?_
   by_cases hd : bw_ l[k] = true
   ·have hr := j3_ hd
    rw [cn_ l k hlt, d2_, if_pos hd] at hF
    have hmul : dgt l[k] * u ≤ 9 * u := Nat.mul_le_mul_right _ (by unfold dgt; omega)
    have e5 : (((l[k].toNat : Nat) : Int) - 48) * ((u : Nat) : Int) = ((dgt l[k] * u : Nat) : Int) := by
     have : ((l[k].toNat : Nat) : Int) - 48 = ((dgt l[k] : Nat) : Int) := by unfold dgt; omega
     rw [this]; simp
    have e6 : ((u : Nat) : Int) / 10 = ((u / 10 : Nat) : Int) := by omega
    simp (disch := (try simp only [la_, lc_, ln_]); omega) only [t0, t3, t5, t6, hd, e5, e6, go_sem, Nat.reduceEqDiff, reduceCtorEq, ↓reduceIte]
    refine ⟨l.length - (k + 1), by omega, hJ _ _ _ ⟨k + 1, n + dgt l[k] * u, u / 10, by simp [upd, t0], by simp [upd], by simp [upd, t4], by simp [upd], by simp [upd], rfl, by omega, by omega, hF⟩⟩
   ·have hd' : bw_ l[k] = false := by simpa using hd
    rw [cn_ l k hlt, d2_, if_neg hd] at hF
    simp (disch := (try simp only [la_, lc_, ln_]); omega) only [hd', go_sem, Nat.reduceEqDiff, ↓reduceIte]
    exact hE _ _ ⟨by simp [upd, t4], by simp [upd, t5, hF]⟩
  ·have hnil : l.drop k = [] := List.drop_eq_nil_of_le (by omega)
   rw [hnil, d2_] at hF
   simp (disch := (try simp only [la_, lc_, ln_]); omega) only [t0, t3, hlt, go_sem, Nat.reduceEqDiff, reduceCtorEq, ↓reduceIte]
   exact hE _ _ ⟨by simp [upd, t4], by simp [upd, t5, hF]⟩
 rintro t h ⟨t4, t5⟩
 have hz := habI _ hrun.symm
 simp (disch := (try simp only [la_, lc_, ln_]); omega) only [t5, go_sem, ↓reduceIte]
 refine aa_.call (d0_ _ _ _) ?_
 simp (disch := (try simp only [la_, lc_, ln_]); omega) only [t4, hz, go_sem, Nat.reduceEqDiff, ↓reduceIte]
 refine al_ (fun hb => ?_) (fun hb => ?_)
 ·simp (disch := (try simp only [la_, lc_, ln_]); omega) only [go_sem, Nat.reduceEqDiff, ↓reduceIte]
  exact aH_ (by unfold bH_; rw [if_pos hb]; omega)
 ·simp (disch := (try simp only [la_, lc_, ln_]); omega) only [go_sem, Nat.reduceEqDiff, ↓reduceIte]
  exact aH_ (by unfold bH_; rw [if_neg (by rw [hb]; decide)])
def q7_ : LC :=
 .seq (.ops [.s 2 (.mov (.const (.bool false)))]) (.seq (.ops [.m 3 0, .s 4 (.bin .neq false (.tmp 3) (.const (.string ⟨#[]⟩))), .m 5 4, .g 6 5 true (.mov (.tmp 0)), .g 7 5 true (.lenStr (.tmp 6)), .g 8 5 true (.bin .leq
 false (.tmp 7) (.const (.int .i64 21))), .pf 9 5 8, .m 10 9, .g 11 10 true (.mov (.tmp 0)), .g 12 10 true (.call 222 [.tmp 11]), .g 13 10 true (.call 196 [.tmp 12]), .g 14 10 true (.mov (.tmp 0)), .g 15 10 true (.bin
 .eql false (.tmp 13) (.tmp 14)), .pf 16 10 15, .m 2 16]) .ret)
def nD_ : LF := ⟨1, 17, q7_, [.tmp 2]⟩
theorem y7_ : at_ Tryz.prog Tryz.f221 nD_ := ah_
theorem hg_ (l : List UInt8) (hl : l.length ≤ 1900000) (h : List Row) : aa_ Tryz.prog 221 [.val (.string (txt l))] h (.val (.bool (bJ_ l))) := by
 refine aj_ mixed Tryz.func221 y7_ rfl rfl ?_ h
 rw [← qt_]
 have hr := ej_ l
 by_cases h0 : l = []
 ·have h0' : (l = []) = True := eq_true h0
  simp (disch := (try simp only [la_, lc_, ln_]); omega) only [nD_, q7_, h0', go_sem, Nat.reduceEqDiff, reduceCtorEq, ↓reduceIte]
  exact ad_ (by simp [h0])
 ·have h0' : (l = []) = False := eq_false h0
  by_cases h21 : (l.length : Int) ≤ 21
  ·simp (disch := (try simp only [la_, lc_, ln_]); omega) only [nD_, q7_, h0', h21, go_sem, Nat.reduceEqDiff, reduceCtorEq, ↓reduceIte]
   refine aa_.call (gE_ l hl _) ?_
   simp (disch := (try simp only [la_, lc_, ln_]); omega) only [go_sem, Nat.reduceEqDiff, ↓reduceIte]
   refine aa_.call (hv_ _ hr.1 hr.2 _) ?_
   simp (disch := (try simp only [la_, lc_, ln_]); omega) only [go_sem, Nat.reduceEqDiff, reduceCtorEq, ↓reduceIte]
   have : l.length ≤ 21 := by omega
   exact ad_ (by simp [this])
  ·simp (disch := (try simp only [la_, lc_, ln_]); omega) only [nD_, q7_, h0', h21, go_sem, Nat.reduceEqDiff, reduceCtorEq, ↓reduceIte]
   have : ¬ (l.length ≤ 21) := by omega
   exact ad_ (by simp [this])
end Go.Proofs.YtfplhbjggecnpaaGreatDoor
namespace Go.AW
set_option linter.unusedSimpArgs false
theorem ep_ : ∀ a : List UInt8, Op.bytesLess a a = false
 | [] => rfl
 | x :: a => by simp [Op.bytesLess, ep_ a, UInt8.lt_irrefl]
theorem gY_ : ∀ a b : List UInt8, Op.bytesLess a b = false → Op.bytesLess b a = false → a = b
 | [], [], _, _ => rfl
 | [], _ :: _, h, _ => by simp [Op.bytesLess] at h
 | _ :: _, [], _, h => by simp [Op.bytesLess] at h
 | x :: a, y :: b, h1, h2 => by
  simp only [Op.bytesLess, Bool.or_eq_false_iff, Bool.and_eq_false_iff, decide_eq_false_iff_not, beq_eq_false_iff_ne] at h1 h2
  have e : x = y := UInt8.le_antisymm (UInt8.not_lt.1 h2.1) (UInt8.not_lt.1 h1.1)
  subst e
  rw [gY_ a b (by simpa using h1.2) (by simpa using h2.2)]
theorem lt_ : ∀ a b : List UInt8, Op.bytesLess a b = true → Op.bytesLess b a = false
 | [], [], h => by simp [Op.bytesLess] at h
 | [], _ :: _, _ => rfl
 | _ :: _, [], h => by simp [Op.bytesLess] at h
 | x :: a, y :: b, h => by
  simp only [Op.bytesLess, Bool.or_eq_true, Bool.and_eq_true, decide_eq_true_eq, beq_iff_eq] at h
  simp only [Op.bytesLess, Bool.or_eq_false_iff, Bool.and_eq_false_iff, decide_eq_false_iff_not, beq_eq_false_iff_ne]
  rcases h with h | ⟨h, k⟩
  ·exact ⟨fun q => UInt8.lt_irrefl x (UInt8.lt_trans h q), .inl fun e => by subst e; exact UInt8.lt_irrefl _ h⟩
  ·subst h
   exact ⟨UInt8.lt_irrefl _, .inr (lt_ a b k)⟩
def h5_ (a b : List UInt8) : Int := if Op.bytesLess a b then -1 else if Op.bytesLess b a then 1 else 0
def jT_ (a b : Int) : Int := if a < b then -1 else if b < a then 1 else 0
theorem gw_ (a b : List UInt8) : h5_ a b = 0 ↔ a = b := by
 unfold h5_
 constructor
 ·intro h
  split at h
  ·simp at h
  ·split at h
   ·simp at h
   ·exact gY_ a b (by simpa using ‹¬ Op.bytesLess a b = true›) (by simpa using ‹¬ Op.bytesLess b a = true›)
 ·rintro rfl; simp [ep_]
theorem ob_ (a b : List UInt8) : h5_ a b < 0 ↔ Op.bytesLess a b = true := by
 unfold h5_
 split
 ·simp_all
 ·split <;> simp_all
theorem rN_ (a b : Int) : jT_ a b = 0 ↔ a = b := by
 unfold jT_
 split
 ·omega
 ·split <;> omega
theorem tO_ (a b : Int) : jT_ a b < 0 ↔ a < b := by
 unfold jT_
 split
 ·omega
 ·split <;> omega
def dk_ (a b : List UInt8) : Int := if bJ_ a && bJ_ b then jT_ (bH_ a) (bH_ b) else if bJ_ a then -1 else if bJ_ b then 1 else h5_ a b
def before (a b : List UInt8) : Bool := if bJ_ a && bJ_ b then decide (bH_ a < bH_ b) else if bJ_ a != bJ_ b then bJ_ a else Op.bytesLess a b
theorem ey_ (a b : List UInt8) : dk_ a b = 0 ↔ a = b := by
 unfold dk_
 cases ha : bJ_ a <;> cases hb : bJ_ b <;> simp only [Bool.and_true, Bool.and_false, Bool.false_eq_true, if_true, if_false]
 ·exact gw_ a b
 ·constructor
  ·intro h; simp at h
  ·rintro rfl; rw [ha] at hb; simp at hb
 ·constructor
  ·intro h; simp at h
  ·rintro rfl; rw [ha] at hb; simp at hb
 ·rw [rN_]
  exact ⟨rS_ ha hb, fun h => by rw [h]⟩
theorem kq_ (a b : List UInt8) : dk_ a b < 0 ↔ before a b = true := by
 unfold dk_ before
 cases ha : bJ_ a <;> cases hb : bJ_ b <;> simp only [Bool.and_true, Bool.and_false, Bool.false_eq_true, if_true, if_false, bne_self_eq_false]
 ·exact ob_ a b
 ·simp
 ·simp
 ·rw [tO_]; simp
def fu_ : List (List UInt8) → List (List UInt8) → Int
 | [], [] => 0
 | [], _ :: _ => -1
 | _ :: _, [] => 1
 | x :: xs, y :: ys => if dk_ x y = 0 then fu_ xs ys else dk_ x y
def cf_ : List (List UInt8) → List (List UInt8) → Bool
 | [], [] => false
 | [], _ :: _ => true
 | _ :: _, [] => false
 | x :: xs, y :: ys => if x = y then cf_ xs ys else before x y
theorem nX_ : ∀ xs ys, fu_ xs ys < 0 ↔ cf_ xs ys = true
 | [], [] => by simp [fu_, cf_]
 | [], _ :: _ => by simp [fu_, cf_]
 | _ :: _, [] => by simp [fu_, cf_]
 | x :: xs, y :: ys => by
  simp only [fu_, cf_]
  by_cases h : x = y
  ·rw [if_pos ((ey_ x y).2 h), if_pos h]; exact nX_ xs ys
  ·rw [if_neg (fun q => h ((ey_ x y).1 q)), if_neg h]; exact kq_ x y
theorem m4_ : ∀ xs ys, fu_ xs ys = 0 ↔ xs = ys
 | [], [] => by simp [fu_]
 | [], _ :: _ => by simp [fu_]
 | _ :: _, [] => by simp [fu_]
 | x :: xs, y :: ys => by
  simp only [fu_]
  by_cases h : x = y
  ·rw [if_pos ((ey_ x y).2 h), m4_ xs ys]; simp [h]
  ·have := fun q => h ((ey_ x y).1 q)
   rw [if_neg this]; simp only [List.cons.injEq, h, false_and, iff_false]; exact this
def f9_ (n : List UInt8) (s : List (List UInt8)) (o : List UInt8) (os : List (List UInt8)) : Int := if h5_ n o = 0 then fu_ s os else h5_ n o
def dD_ (n : List UInt8) (s : List (List UInt8)) (o : List UInt8) (os : List (List UInt8)) : Bool := if n = o then cf_ s os else Op.bytesLess n o
theorem on_ (n : List UInt8) (s : List (List UInt8)) (o : List UInt8) (os : List (List UInt8)) : f9_ n s o os < 0 ↔ dD_ n s o os = true := by
 unfold f9_ dD_
 by_cases h : n = o
 ·rw [if_pos ((gw_ n o).2 h), if_pos h]; exact nX_ s os
 ·rw [if_neg (fun q => h ((gw_ n o).1 q)), if_neg h]; exact ob_ n o
theorem r8_ (n : List UInt8) (s : List (List UInt8)) (o : List UInt8) (os : List (List UInt8)) : f9_ n s o os = 0 ↔ n = o ∧ s = os := by
 unfold f9_
 by_cases h : n = o
 ·rw [if_pos ((gw_ n o).2 h), m4_]; simp [h]
 ·have := fun q => h ((gw_ n o).1 q)
  rw [if_neg this]; simp only [h, false_and, iff_false]; exact this
def c7_ (n j : Nat) : UInt8 := UInt8.ofNat (n / 256 ^ j % 256)
def be8 (n : Nat) : List UInt8 := [c7_ n 7, c7_ n 6, c7_ n 5, c7_ n 4, c7_ n 3, c7_ n 2, c7_ n 1, c7_ n 0]
def b6_ (acc : Nat) (l : List UInt8) : Nat := l.foldl (fun a b => a * 256 + b.toNat) acc
theorem jI_ (n j : Nat) : (c7_ n j).toNat = n / 256 ^ j % 256 := by
 unfold c7_; rw [UInt8.toNat_ofNat']; omega
theorem oI_ (n : Nat) (h : n < 18446744073709551616) : b6_ 0 (be8 n) = n := by
 simp only [b6_, be8, List.foldl_cons, List.foldl_nil, jI_, Nat.reducePow]
 omega
theorem oe_ (acc : Nat) : b6_ acc [] = acc := by unfold b6_; rw [List.foldl_nil]
theorem rI_ (acc : Nat) (b : UInt8) (l : List UInt8) : b6_ acc (b :: l) = b6_ (acc * 256 + b.toNat) l := by unfold b6_; rw [List.foldl_cons]
theorem mh_ : ∀ (l : List UInt8) (acc : Nat), b6_ acc l < (acc + 1) * 256 ^ l.length
 | [], acc => by rw [oe_]; simp
 | b :: l, acc => by
  rw [rI_]
  have h := mh_ l (acc * 256 + b.toNat)
  have hb := b.toNat_lt
  have h2 : (acc * 256 + b.toNat + 1) * 256 ^ l.length ≤ ((acc + 1) * 256) * 256 ^ l.length := Nat.mul_le_mul_right _ (by omega)
  rw [lc_, Nat.pow_succ, Nat.mul_comm (256 ^ l.length), ← Nat.mul_assoc]
  omega
def esc : List UInt8 → List UInt8
 | [] => []
 | b :: l => if b = 0 then 0 :: 255 :: esc l else b :: esc l
def c1_ (l : List UInt8) : Nat := (bH_ l + 1000000000000000000).toNat
def cb_ (l : List UInt8) : List UInt8 := if bJ_ l then 1 :: be8 (c1_ l) else 2 :: (esc l ++ [0, 0])
def cE_ (xs : List (List UInt8)) : List UInt8 := xs.flatMap cb_
theorem oG_ : cE_ [] = [] := rfl
theorem mP_ (x : List UInt8) (xs : List (List UInt8)) : cE_ (x :: xs) = cb_ x ++ cE_ xs := rfl
theorem sw_ (l : List UInt8) : cb_ l ≠ [] := by unfold cb_; split <;> simp
theorem hr_ (l : List UInt8) : 1 ≤ c1_ l ∧ c1_ l ≤ 1999999999999999999 := by
 have := ej_ l
 unfold c1_; omega
theorem hO_ (l : List UInt8) : ((c1_ l : Nat) : Int) = bH_ l + 1000000000000000000 := by
 have := ej_ l
 unfold c1_; omega
theorem iH_ : ∀ l : List UInt8, (esc l).length ≤ 2 * l.length
 | [] => by simp [esc]
 | b :: l => by
  have := iH_ l
  unfold esc
  split <;> simp only [lc_] <;> omega
theorem jc_ (l : List UInt8) : (cb_ l).length ≤ 2 * l.length + 9 := by
 have := iH_ l
 unfold cb_
 split
 ·simp [be8]
 ·simp only [lc_, la_, ln_]; omega
def b9_ : List UInt8 → List UInt8 → Option (List UInt8 × List UInt8)
 | b :: c :: r, acc => if b = 0 then (if c = 0 then some (acc, r) else if c = 255 then b9_ r (acc ++ [0]) else none) else b9_ (c :: r) (acc ++ [b])
 | [_], _ => none
 | [], _ => none
theorem gB_ (b c : UInt8) (r acc : List UInt8) : b9_ (b :: c :: r) acc = if b = 0 then (if c = 0 then some (acc, r) else if c = 255 then b9_ r (acc ++ [0]) else none) else b9_ (c :: r) (acc ++ [b]) := by
 rw [b9_]
theorem pL_ (l acc : List UInt8) (h : l.length < 2) : b9_ l acc = none := by
 match l, h with
 | [], _ => rw [b9_]
 | [_], _ => rw [b9_]
theorem lJ_ (l acc : List UInt8) (i : Nat) (h : i + 1 < l.length) : b9_ (l.drop i) acc = if l[i] = 0 then (if l[i + 1] = 0 then some (acc, l.drop (i + 2)) else if l[i + 1] = 255 then b9_ (l.drop (i + 2)) (acc ++ [0]) else none) else b9_ (l.drop (i + 1)) (acc ++ [l[i]]) := by
 rw [List.drop_eq_getElem_cons (by omega : i < l.length), List.drop_eq_getElem_cons h, gB_]
theorem mD_ (l acc : List UInt8) (i : Nat) (h : l.length ≤ i + 1) : b9_ (l.drop i) acc = none :=
 pL_ _ _ (by rw [List.length_drop]; omega)
theorem hF_ : ∀ (l acc t r : List UInt8), b9_ l acc = some (t, r) → t.length ≤ acc.length + l.length ∧ r.length ≤ l.length
 | [], acc, t, r, h => by rw [b9_] at h; cases h
 | [_], acc, t, r, h => by rw [b9_] at h; cases h
 | b :: c :: l, acc, t, r, h => by
  rw [gB_] at h
  split at h
  ·split at h
   ·simp only [Option.some.injEq, Prod.mk.injEq] at h
    obtain ⟨rfl, rfl⟩ := h
    simp only [lc_]; omega
   ·split at h
    ·have := hF_ l _ t r h
     simp only [la_, lc_, ln_] at this ⊢; omega
    ·cases h
  ·have := hF_ (c :: l) _ t r h
   simp only [la_, lc_, ln_] at this ⊢; omega
theorem jw_ : ∀ (x rest acc : List UInt8), b9_ (esc x ++ (0 :: 0 :: rest)) acc = some (acc ++ x, rest)
 | [], rest, acc => by
  rw [esc, List.nil_append, gB_, if_pos rfl, if_pos rfl, List.append_nil]
 | b :: x, rest, acc => by
  have ih := jw_ x rest (acc ++ [b])
  by_cases h : b = 0
  ·subst h
   rw [esc, if_pos rfl, List.cons_append, List.cons_append, gB_, if_pos rfl, if_neg (by decide), if_pos rfl, ih, List.append_assoc]
   rfl
  ·rw [esc, if_neg h, List.cons_append]
   cases hq : esc x ++ (0 :: 0 :: rest) with
   | nil => simp at hq
   | cons c r => rw [gB_, if_neg h, ← hq, ih, List.append_assoc]; rfl
def gd_ (n : Int) : List UInt8 := if -999999999999999999 ≤ n ∧ n ≤ 999999999999999999 then bK_ n else []
def du_ : List UInt8 → Option (List UInt8 × List UInt8)
 | [] => none
 | b :: l => if b = 1 then (if l.length < 8 then none else if 2000000000000000000 < b6_ 0 (l.take 8) then none else some (gd_ ((b6_ 0 (l.take 8) : Int) - 1000000000000000000), l.drop 8))
  else if b = 2 then b9_ l [] else none
def db_ : List UInt8 → Option (List UInt8 × List UInt8)
 | [] => none
 | b :: l => if b = 1 ∧ 8 ≤ l.length then (if 1 ≤ b6_ 0 (l.take 8) ∧ b6_ 0 (l.take 8) ≤ 1999999999999999999 then some (bK_ ((b6_ 0 (l.take 8) : Int) - 1000000000000000000), l.drop 8) else none)
  else if b = 2 then b9_ l [] else none
theorem dB_ (n : Nat) : (be8 n).length = 8 := rfl
theorem o6_ (n : Nat) (r : List UInt8) : (be8 n ++ r).take 8 = be8 n := List.take_left' (dB_ n)
theorem oh_ (n : Nat) (r : List UInt8) : (be8 n ++ r).drop 8 = r := List.drop_left' (dB_ n)
theorem jo_ (x r : List UInt8) : du_ (cb_ x ++ r) = some (x, r) := by
 unfold cb_
 by_cases h : bJ_ x = true
 ·have hk := hr_ x
  have hq := hO_ x
  rw [if_pos h, List.cons_append, du_, if_pos rfl, if_neg (by simp [dB_]), o6_, oh_, oI_ _ (by omega), if_neg (by omega)]
  have e : ((c1_ x : Nat) : Int) - 1000000000000000000 = bH_ x := by omega
  have hn := ej_ x
  rw [e, gd_, if_pos hn, of_decide_eq_true (by exact h : decide (bK_ (bH_ x) = x) = true)]
 ·rw [if_neg h, List.cons_append, du_, if_neg (by decide), if_pos rfl, List.append_assoc]
  exact jw_ x r []
theorem mL_ (x r : List UInt8) : db_ (cb_ x ++ r) = some (x, r) := by
 unfold cb_
 by_cases h : bJ_ x = true
 ·have hk := hr_ x
  have hq := hO_ x
  rw [if_pos h, List.cons_append, db_, if_pos ⟨rfl, by simp [dB_]⟩, o6_, oh_, oI_ _ (by omega), if_pos (by omega)]
  have e : ((c1_ x : Nat) : Int) - 1000000000000000000 = bH_ x := by omega
  rw [e, of_decide_eq_true (by exact h : decide (bK_ (bH_ x) = x) = true)]
 ·rw [if_neg h, List.cons_append, db_, if_neg (by rintro ⟨q, _⟩; exact absurd q (by decide)), if_pos rfl, List.append_assoc]
  exact jw_ x r []
theorem mV_ (l t r : List UInt8) (h : du_ l = some (t, r)) : t.length ≤ l.length + 20 ∧ r.length < l.length := by
 cases l with
 | nil => cases h
 | cons b l =>
  rw [du_] at h
  split at h
  ·split at h
   ·cases h
   ·split at h
    ·cases h
    ·simp only [Option.some.injEq, Prod.mk.injEq] at h
     obtain ⟨rfl, rfl⟩ := h
     refine ⟨?_, by simp only [List.length_drop, lc_]; omega⟩
     unfold gd_
     split
     ·rename_i q; have := f6_ q.1 q.2; simp only [lc_]; omega
     ·simp
  ·split at h
   ·have := hF_ l [] t r h
    simp only [ln_, lc_] at this ⊢; omega
   ·cases h
theorem st_ (l t r : List UInt8) (h : db_ l = some (t, r)) : t.length ≤ l.length + 20 ∧ r.length < l.length := by
 cases l with
 | nil => cases h
 | cons b l =>
  rw [db_] at h
  split at h
  ·split at h
   ·rename_i q
    simp only [Option.some.injEq, Prod.mk.injEq] at h
    obtain ⟨rfl, rfl⟩ := h
    refine ⟨?_, by simp only [List.length_drop, lc_]; omega⟩
    have := f6_ (n := (b6_ 0 (l.take 8) : Int) - 1000000000000000000) (by omega) (by omega)
    simp only [lc_]; omega
   ·cases h
  ·split at h
   ·have := hF_ l [] t r h
    simp only [ln_, lc_] at this ⊢; omega
   ·cases h
def zQ_ (x : List UInt8) : Bool := decide (1 ≤ x.length) && decide (x.length ≤ 24)
def ee_ (xs : List (List UInt8)) : Bool := decide (xs.length ≤ 4) && xs.all zQ_
def cF_ (take : List UInt8 → Option (List UInt8 × List UInt8)) : Nat → List UInt8 → List (List UInt8) → Option (List (List UInt8) × List UInt8)
 | 0, left, out => some (out, left)
 | f + 1, left, out => if left = [] then some (out, left) else match take left with
  | none => none
  | some (t, r) => cF_ take f r (out ++ [t])
def fv_ (take : List UInt8 → Option (List UInt8 × List UInt8)) (s : List UInt8) : Option (List (List UInt8)) :=
 match cF_ take 5 s [] with
 | none => none
 | some (out, left) => if left = [] ∧ ee_ out = true ∧ cE_ out = s then some out else none
theorem oL_ {take : List UInt8 → Option (List UInt8 × List UInt8)} (hA : ∀ x r, take (cb_ x ++ r) = some (x, r)) : ∀ (xs : List (List UInt8)) (f : Nat) (out : List (List UInt8)), xs.length ≤ f → cF_ take f (cE_ xs) out = some (out ++ xs, [])
 | [], 0, out, _ => by rw [cF_, oG_, List.append_nil]
 | [], f + 1, out, _ => by rw [cF_, oG_, if_pos rfl, List.append_nil]
 | x :: xs, 0, out, h => by simp at h
 | x :: xs, f + 1, out, h => by
  rw [cF_, mP_, if_neg (by simp [sw_]), hA]
  simp only
  rw [oL_ hA xs f _ (by simpa using h), List.append_assoc]; rfl
theorem ho_ {take : List UInt8 → Option (List UInt8 × List UInt8)} (hA : ∀ x r, take (cb_ x ++ r) = some (x, r)) (s : List UInt8) (xs : List (List UInt8)) : fv_ take s = some xs ↔ ee_ xs = true ∧ cE_ xs = s := by
 constructor
 ·intro h
  unfold fv_ at h
  split at h
  ·cases h
  ·rename_i out left _
   split at h
   ·rename_i q
    simp only [Option.some.injEq] at h
    subst h
    exact q.2
   ·cases h
 ·rintro ⟨h1, h2⟩
  have hl : xs.length ≤ 4 := by simp only [ee_, Bool.and_eq_true, decide_eq_true_eq] at h1; exact h1.1
  have := oL_ hA xs 5 [] (by omega)
  rw [h2, List.nil_append] at this
  unfold fv_
  rw [this]
  simp only
  rw [if_pos ⟨trivial, h1, h2⟩]
theorem jR_ (s : List UInt8) : fv_ du_ s = fv_ db_ s := by
 cases h : fv_ db_ s with
 | some xs => exact (ho_ jo_ s xs).2 ((ho_ mL_ s xs).1 h)
 | none =>
  cases h2 : fv_ du_ s with
  | none => rfl
  | some xs =>
   have := (ho_ mL_ s xs).2 ((ho_ jo_ s xs).1 h2)
   rw [h] at this; cases this
end Go.AW
