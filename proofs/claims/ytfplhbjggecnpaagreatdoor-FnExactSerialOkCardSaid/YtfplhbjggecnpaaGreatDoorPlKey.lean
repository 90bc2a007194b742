/-
 Plain numbers of texts: the number that a text begins with, the one text of a number, and the ways in which both programs reckon them. Nothing of any program.
-/
import Derived.Test.YtfplhbjggecnpaaGreatDoorShelf
import Derived.Test.YtfplhbjggecnpaaGreatDoorAwC
import Derived.Lib.ItoaNum
import GoSem.Op.String
namespace Go.AW
open Go.Lib (decDigits nDigits itoa)
def c8_ (b : UInt8) : Bool := b == 43 || b == 45
def bm_ (b : UInt8) : Bool := decide (48 ≤ b.toNat) && decide (b.toNat ≤ 57)
def dgt (b : UInt8) : Nat := b.toNat - 48
def c9_ (acc : Nat) (l : List UInt8) : Nat := l.foldl (fun a b => 10 * a + dgt b) acc
theorem eU_ (acc : Nat) : c9_ acc [] = acc := by unfold c9_; rw [List.foldl_nil]
theorem eV_ (acc : Nat) (b : UInt8) (l : List UInt8) : c9_ acc (b :: l) = c9_ (10 * acc + dgt b) l := by unfold c9_; rw [List.foldl_cons]
theorem jC_ (b : UInt8) (l : List UInt8) : c9_ 0 (b :: l) = c9_ (dgt b) l := by rw [eV_, Nat.mul_zero, Nat.zero_add]
theorem pG_ (acc : Nat) (a b : List UInt8) : c9_ acc (a ++ b) = c9_ (c9_ acc a) b := by
 induction a generalizing acc with
 | nil => rw [List.nil_append, eU_]
 | cons x a ih => rw [List.cons_append, eV_, eV_, ih]
theorem i4_ (acc : Nat) (l : List UInt8) : c9_ acc l = acc * 10 ^ l.length + c9_ 0 l := by
 induction l generalizing acc with
 | nil => rw [ln_, Nat.pow_zero, Nat.mul_one, eU_, eU_]; rfl
 | cons b l ih =>
  rw [eV_, jC_, ih (10 * acc + dgt b), ih (dgt b), lc_, Nat.pow_succ, Nat.add_mul, Nat.mul_comm 10 acc, Nat.mul_assoc, Nat.mul_comm 10, Nat.add_assoc]
theorem wZ_ (acc : Nat) (l : List UInt8) : acc ≤ c9_ acc l := by
 rw [i4_]
 have : 1 ≤ 10 ^ l.length := Nat.one_le_pow _ _ (by decide)
 have := Nat.mul_le_mul_left acc this
 omega
theorem zA_ {b : UInt8} (h : bm_ b = true) : dgt b ≤ 9 := by
 simp only [bm_, Bool.and_eq_true, decide_eq_true_eq] at h
 unfold dgt; omega
theorem qw_ : ∀ (l : List UInt8), (∀ b ∈ l, dgt b ≤ 9) → c9_ 0 l < 10 ^ l.length
 | [], _ => by rw [ln_, Nat.pow_zero, eU_]; exact Nat.zero_lt_one
 | b :: l, h => by
  have h2 := qw_ l (fun x hx => h x (by simp [hx]))
  have h3 := h b (by simp)
  rw [jC_, i4_, lc_, Nat.pow_succ]
  generalize 10 ^ l.length = p at *
  have : dgt b * p ≤ 9 * p := Nat.mul_le_mul_right _ h3
  omega
def fz_ (n : Nat) : List UInt8 → Nat
 | [] => n
 | c :: cs => if (999999999999999999 - dgt c) / 10 < n then 999999999999999999 else fz_ (10 * n + dgt c) cs
theorem nN_ : ∀ (l : List UInt8) (n : Nat), n ≤ 999999999999999999 → (∀ b ∈ l, dgt b ≤ 9) → fz_ n l = min (c9_ n l) 999999999999999999
 | [], n, h, _ => by rw [eU_]; show n = _; omega
 | c :: cs, n, h, hd => by
  have h3 := hd c (by simp)
  rw [eV_]
  show (if (999999999999999999 - dgt c) / 10 < n then 999999999999999999 else fz_ (10 * n + dgt c) cs) = _
  split
  ·have := wZ_ (10 * n + dgt c) cs
   omega
  ·exact nN_ cs _ (by omega) (fun b hb => hd b (by simp [hb]))
def do_ (n : Nat) : List UInt8 → Nat
 | [] => n
 | b :: bs => if bm_ b then do_ (min (10 * n + dgt b) 1000000000000) bs else n
theorem mt_ : ∀ (l : List UInt8) (n : Nat), do_ (min n 1000000000000) l = min (c9_ n (l.takeWhile bm_)) 1000000000000
 | [], n => by rw [List.takeWhile_nil, eU_]; rfl
 | b :: l, n => by
  simp only [do_, List.takeWhile_cons]
  split
  ·have e : min (10 * min n 1000000000000 + dgt b) 1000000000000 = min (10 * n + dgt b) 1000000000000 := by omega
   rw [e, mt_ l, eV_]
  ·rw [eU_]
def ef_ (n unit : Nat) : List UInt8 → Nat
 | [] => n
 | b :: bs => if bm_ b then ef_ (n + dgt b * unit) (unit / 10) bs else n
def iQ_ : Nat → Nat
 | 0 => 0
 | j + 1 => 10 ^ j
theorem q1_ (j : Nat) : iQ_ (j + 1) / 10 = iQ_ j := by
 cases j with
 | zero => rfl
 | succ j => simp only [iQ_, Nat.pow_succ]; omega
theorem mp_ (acc n : Nat) : c9_ acc (List.replicate n 48) = acc * 10 ^ n := by
 induction n generalizing acc with
 | zero => rw [List.replicate_zero, eU_, Nat.pow_zero, Nat.mul_one]
 | succ n ih =>
  have : dgt 48 = 0 := rfl
  rw [List.replicate_succ, eV_, ih, this, Nat.add_zero, Nat.pow_succ, Nat.mul_comm 10 acc, Nat.mul_assoc, Nat.mul_comm 10]
theorem jv_ : ∀ (l : List UInt8) (n j : Nat), j ≤ 6 → ef_ n (iQ_ j) l = n + c9_ 0 ((l.takeWhile bm_ ++ List.replicate 6 48).take j)
 | [], n, j, hj => by
  have : (([] : List UInt8).takeWhile bm_ ++ List.replicate 6 48).take j = List.replicate j 48 := by
   simp only [List.takeWhile_nil, List.nil_append, List.take_replicate]; congr 1; omega
  rw [this, mp_]; simp [ef_]
 | b :: l, n, j, hj => by
  simp only [ef_, List.takeWhile_cons]
  split
  ·cases j with
   | zero =>
    have e : iQ_ 0 = 0 := rfl
    rw [e, Nat.mul_zero, Nat.add_zero, Nat.zero_div]
    have := jv_ l n 0 (by omega)
    rw [e] at this
    rw [this]; simp
   | succ j =>
    rw [q1_, jv_ l _ j (by omega), List.cons_append, List.take_succ_cons]
    rw [jC_, i4_ (dgt b), List.length_take]
    have : min j (l.takeWhile bm_ ++ List.replicate 6 (48 : UInt8)).length = j := by
     simp only [la_, List.length_replicate]; omega
    rw [this]
    simp only [iQ_]
    omega
  ·have : (([] : List UInt8) ++ List.replicate 6 48).take j = List.replicate j 48 := by
    simp only [List.nil_append, List.take_replicate]; congr 1; omega
   rw [this, mp_]; simp
def bg_ (l : List UInt8) : List UInt8 := l.dropWhile c8_
def dW_ (l : List UInt8) : Bool := (l.takeWhile c8_).count 45 % 2 == 1
def mX_ (r : List UInt8) : List UInt8 := r.takeWhile bm_
def cx_ (r : List UInt8) : List UInt8 :=
 match r.dropWhile bm_ with
 | 46 :: t => t.takeWhile bm_
 | _ => []
def six (f : List UInt8) : List UInt8 := (f ++ List.replicate 6 48).take 6
def fx_ (l : List UInt8) : Nat := min (c9_ 0 (mX_ (bg_ l)) * 1000000 + c9_ 0 (six (cx_ (bg_ l)))) 999999999999999999
def bH_ (l : List UInt8) : Int := if dW_ l then -(fx_ l : Int) else fx_ l
theorem kn_ (l : List UInt8) : fx_ l ≤ 999999999999999999 := Nat.min_le_right _ _
theorem ex_ (l : List UInt8) : -999999999999999999 ≤ bH_ l ∧ bH_ l ≤ 999999999999999999 := by
 have := kn_ l
 unfold bH_
 split <;> omega
theorem jK_ (l : List UInt8) : ∀ b ∈ l.takeWhile bm_, dgt b ≤ 9 := fun b hb => zA_ (by
 induction l with
 | nil => simp at hb
 | cons x l ih =>
  rw [List.takeWhile_cons] at hb
  split at hb
  ·rcases List.mem_cons.1 hb with e | e
   ·subst e; assumption
   ·exact ih e
  ·simp at hb)
theorem mh_ (r : List UInt8) : ∀ b ∈ cx_ r, dgt b ≤ 9 := by
 unfold cx_
 split
 ·exact jK_ _
 ·simp
theorem qy_ {f : List UInt8} (h : ∀ b ∈ f, dgt b ≤ 9) : ∀ b ∈ six f, dgt b ≤ 9 := by
 intro b hb
 have := List.mem_of_mem_take hb
 rcases List.mem_append.1 this with q | q
 ·exact h b q
 ·rw [List.eq_of_mem_replicate q]; decide
theorem jc_ (f : List UInt8) : (six f).length = 6 := by simp [six]
theorem tZ_ (l : List UInt8) : fz_ 0 (mX_ (bg_ l) ++ six (cx_ (bg_ l))) = fx_ l := by
 rw [nN_ _ _ (by omega), pG_, i4_ (c9_ 0 _), jc_]
 ·rfl
 ·intro b hb
  rcases List.mem_append.1 hb with q | q
  ·exact jK_ _ b q
  ·exact qy_ (mh_ _) b q
theorem tJ_ (l : List UInt8) : min (min (do_ 0 (bg_ l) * 1000000) 1000000000000000000 + c9_ 0 (six (cx_ (bg_ l)))) 999999999999999999 = fx_ l := by
 have h1 := mt_ (bg_ l) 0
 rw [Nat.zero_min] at h1
 have h2 := qw_ _ (qy_ (mh_ (bg_ l)))
 rw [jc_] at h2
 unfold fx_ mX_
 rw [h1]
 omega
def cF_ (u : Nat) : List UInt8 := if u = 0 then [] else decDigits u
def fj_ (l : List UInt8) : List UInt8 := (l.reverse.dropWhile fun b => b == 48).reverse
def jj_ (r : Nat) : List UInt8 := if r = 0 then [] else 46 :: fj_ ((decDigits (1000000 + r)).drop 1)
def cZ_ (u : Nat) : List UInt8 := if u = 0 then [48] else cF_ (u / 1000000) ++ jj_ (u % 1000000)
def bK_ (n : Int) : List UInt8 := if n < 0 then 45 :: cZ_ n.natAbs else cZ_ n.natAbs
theorem kC_ (u : Nat) : decDigits u ≠ [] := by
 rw [decDigits]; split <;> simp
theorem ji_ : ∀ (k u : Nat), u < 10 ^ (k + 1) → nDigits u ≤ k + 1
 | 0, u, h => by rw [Go.Lib.nDigits_small (by simpa using h)]; omega
 | k + 1, u, h => by
  by_cases h1 : u < 10
  ·rw [Go.Lib.nDigits_small h1]; omega
  ·rw [Go.Lib.nDigits_big h1]
   have := ji_ k (u / 10) (by rw [Nat.pow_succ] at h; omega)
   omega
theorem eP_ (l : List UInt8) : (fj_ l).length ≤ l.length := by
 unfold fj_
 rw [List.length_reverse]
 have := (List.dropWhile_sublist (l := l.reverse) (fun b => b == 48)).length_le
 rw [List.length_reverse] at this
 exact this
theorem oV_ {r : Nat} (h : r < 1000000) : (jj_ r).length ≤ 7 := by
 unfold jj_
 split
 ·simp
 ·have h1 := eP_ ((decDigits (1000000 + r)).drop 1)
  rw [List.length_drop, Go.Lib.decDigits_length, Go.Lib.nDigits_unique 6 (1000000 + r) (by omega) (by omega)] at h1
  rw [lc_]; omega
theorem iS_ {u : Nat} (h : u ≤ 999999999999999999) : (cZ_ u).length ≤ 19 := by
 unfold cZ_
 split
 ·simp
 ·rw [la_]
  have h1 := oV_ (r := u % 1000000) (by omega)
  have h2 : (cF_ (u / 1000000)).length ≤ 12 := by
   unfold cF_
   split
   ·simp
   ·rw [Go.Lib.decDigits_length]; exact ji_ 11 _ (by omega)
  omega
theorem gJ_ {n : Int} (h1 : -999999999999999999 ≤ n) (h2 : n ≤ 999999999999999999) : (bK_ n).length ≤ 20 := by
 have := iS_ (u := n.natAbs) (by omega)
 unfold bK_
 split
 ·rw [lc_]; omega
 ·omega
theorem r1_ (u : Nat) : cZ_ u ≠ [] := by
 unfold cZ_
 split
 ·simp
 ·intro h
  have h1 := (List.append_eq_nil_iff.1 h).1
  have h2 := (List.append_eq_nil_iff.1 h).2
  have e1 : u / 1000000 = 0 := by
   unfold cF_ at h1
   split at h1
   ·assumption
   ·exact absurd h1 (kC_ _)
  have e2 : u % 1000000 = 0 := by
   unfold jj_ at h2
   split at h2
   ·assumption
   ·simp at h2
  omega
theorem r5_ (n : Int) : bK_ n ≠ [] := by
 unfold bK_
 split
 ·simp
 ·exact r1_ _
def bJ_ (l : List UInt8) : Bool := decide (bK_ (bH_ l) = l)
theorem q5_ (l : List UInt8) : (decide (l ≠ []) && decide (l.length ≤ 21) && decide (bK_ (bH_ l) = l)) = bJ_ l := by
 unfold bJ_
 by_cases h : bK_ (bH_ l) = l
 ·have h1 := r5_ (bH_ l)
  have h2 := gJ_ (ex_ l).1 (ex_ l).2
  rw [h] at h1 h2
  have h3 : l.length ≤ 21 := by omega
  simp [h, h1, h3]
 ·simp [h]
theorem st_ {a b : List UInt8} (ha : bJ_ a = true) (hb : bJ_ b = true) (h : bH_ a = bH_ b) : a = b := by
 rw [← of_decide_eq_true ha, ← of_decide_eq_true hb, h]
theorem sV_ {r : Nat} (h0 : r ≠ 0) (h : r < 1000000) : ∃ b ∈ (decDigits (1000000 + r)).drop 1, b ≠ 48 := by
 have hn : nDigits (1000000 + r) = 7 := Go.Lib.nDigits_unique 6 (1000000 + r) (by omega) (by omega)
 have hd : (decDigits (1000000 + r)).drop 1 = [Go.Lib.dg (1000000 + r) 5, Go.Lib.dg (1000000 + r) 4, Go.Lib.dg (1000000 + r) 3, Go.Lib.dg (1000000 + r) 2, Go.Lib.dg (1000000 + r) 1, Go.Lib.dg (1000000 + r) 0] := by
  rw [Go.Lib.decDigits_eq, hn]; rfl
 have key : ∀ j, Go.Lib.dg (1000000 + r) j = 48 → (1000000 + r) / 10 ^ j % 10 = 0 := by
  intro j hj
  have := congrArg UInt8.toNat hj
  simp only [Go.Lib.dg] at this
  rw [UInt8.toNat_ofNat'] at this
  have h2 : (48 : UInt8).toNat = 48 := rfl
  rw [h2] at this
  omega
 rw [hd]
 apply Classical.byContradiction
 intro hc
 have hall : ∀ b ∈ [Go.Lib.dg (1000000 + r) 5, Go.Lib.dg (1000000 + r) 4, Go.Lib.dg (1000000 + r) 3, Go.Lib.dg (1000000 + r) 2, Go.Lib.dg (1000000 + r) 1, Go.Lib.dg (1000000 + r) 0], b = 48 := by
  intro b hb
  apply Classical.byContradiction
  intro hn
  exact hc ⟨b, hb, hn⟩
 have k5 := key 5 (hall _ (by simp))
 have k4 := key 4 (hall _ (by simp))
 have k3 := key 3 (hall _ (by simp))
 have k2 := key 2 (hall _ (by simp))
 have k1 := key 1 (hall _ (by simp))
 have k0 := key 0 (hall _ (by simp))
 simp only [Nat.reducePow] at k5 k4 k3 k2 k1 k0
 omega
end Go.AW
namespace Go.Proofs.YtfplhbjggecnpaaGreatDoor
open Go.AW
set_option linter.unusedVariables false
set_option linter.unusedSimpArgs false
set_option maxRecDepth 4000
theorem gv_ (l cs : List UInt8) (hcs : cs.length < 4294967281) (ha : ∀ b ∈ cs, b.toNat < 128) (h : List Row) :
 aa_ Tryz.prog 226 [.val (.string (txt l)), .val (.string (txt cs))] h (.val (.string (txt (l.dropWhile (cs.contains ·))))) := by
 refine ho_ (vals := [.string (txt l), .string (txt cs)]) (fun w _ => ?_) h
 have := Any.strings_TrimLeft_laid Tryz.lays161 (by kernel_rfl) (txt l) (txt cs) w (by rw [bT_]; exact hcs) (by rw [bQ_]; intro j b hb; exact ha b (List.mem_of_getElem? hb))
 rw [bQ_, bQ_] at this
 exact this
theorem df_ (l cs : List UInt8) (hl : l.length ≤ 9223372036854775807) (hcs : cs.length < 4294967281) (ha : ∀ b ∈ cs, b.toNat < 128) (h : List Row) :
 aa_ Tryz.prog 237 [.val (.string (txt l)), .val (.string (txt cs))] h (.val (.string (txt ((l.reverse.dropWhile (cs.contains ·)).reverse)))) := by
 refine ho_ (vals := [.string (txt l), .string (txt cs)]) (fun w _ => ?_) h
 have := Any.strings_TrimRight_laid Tryz.lays162 (by kernel_rfl) (txt l) (txt cs) w (by rw [bT_]; exact hl) (by rw [bT_]; exact hcs) (by rw [bQ_]; intro j b hb; exact ha b (List.mem_of_getElem? hb))
 rw [bQ_, bQ_] at this
 exact this
theorem lz_ (l : List UInt8) (c : UInt8) (h : List Row) :
 aa_ Tryz.prog 227 [.val (.string (txt l)), .val (.string (txt [c]))] h (.val (.int .i64 (l.count c))) := by
 refine ho_ (vals := [.string (txt l), .string (txt [c])]) (fun w _ => ?_) h
 have := Any.strings_Count_one Tryz.lays138 (txt l) c w
 rw [bQ_] at this
 refine this.mono ?_
 rintro e w' ⟨rfl, rfl⟩
 exact ⟨rfl, Go.RowKit.Below.refl _ _⟩
theorem pb_ (w : World) (q : Nat) (os : Array Obj) : RowKit.Below w.heap.size w (Go.Sort.grow (w.drewN q) os) :=
 ⟨rfl, rfl, rfl, by first | (simp [Go.Sort.grow]; done) | (simp [Go.Sort.grow]; omega), fun i hi => by
  show ((w.drewN q).heap ++ os)[i]? = _
  rw [Array.getElem?_append_left (by show i < w.heap.size; omega)]
  rfl⟩
theorem bz_ (n : Int) (h0 : -9223372036854775808 ≤ n) (h1 : n ≤ 9223372036854775807) (h : List Row) :
 aa_ Tryz.prog 236 [.val (.int .i64 n), .val (.int .i64 10)] h (.val (.string (txt (Lib.itoa n)))) := by
 refine ho_ (vals := [.int .i64 n, .int .i64 10]) (fun w ht => ?_) h
 have := Any.strconv_FormatInt_10 Tryz.laysM173 n h0 h1 w (ht ("internal/strconv.uint64pow10", (Lib.pow10Tab.map fun z => Value.int .u64 z).toArray) (by simp [pj_]) (by kernel_rfl))
 refine this.mono ?_
 rintro e w' ⟨rfl, k, os, rfl⟩
 exact ⟨rfl, pb_ _ _ _⟩
theorem jy_ (l p : List UInt8) (h : List Row) :
 aa_ Tryz.prog 229 [.val (.string (txt l)), .val (.string (txt p))] h (.tup [.val (.string (txt (Lib.trimPrefix l p))), .val (.bool (Lib.hasPrefix l p))]) := by
 refine tp_ (vals := [.string (txt l), .string (txt p)]) (us := [.string (txt (Lib.trimPrefix l p)), .bool (Lib.hasPrefix l p)]) (fun w _ => ?_) h
 have := Any.strings_CutPrefix Tryz.lays103 (txt l) (txt p) w
 rw [bQ_, bQ_] at this
 refine this.mono ?_
 rintro e w' ⟨rfl, rfl⟩
 exact ⟨rfl, Go.RowKit.Below.refl _ _⟩
theorem o1_ (b : UInt8) : ([48, 49, 50, 51, 52, 53, 54, 55, 56, 57] : List UInt8).contains b = bm_ b := by
 have hb := b.toNat_lt
 rw [Bool.eq_iff_iff]
 simp only [List.contains_eq_mem, List.mem_cons, List.not_mem_nil, or_false, decide_eq_true_eq, bm_, Bool.and_eq_true, ← UInt8.toNat_inj]
 show (b.toNat = 48 ∨ b.toNat = 49 ∨ b.toNat = 50 ∨ b.toNat = 51 ∨ b.toNat = 52 ∨ b.toNat = 53 ∨ b.toNat = 54 ∨ b.toNat = 55 ∨ b.toNat = 56 ∨ b.toNat = 57) ↔ _
 omega
theorem pq_ (b : UInt8) : ([43, 45] : List UInt8).contains b = c8_ b := by
 rw [Bool.eq_iff_iff]
 simp [c8_]
theorem c0_ {α : Type} {p q : α → Bool} (h : ∀ x, p x = q x) (l : List α) : l.dropWhile p = l.dropWhile q := by
 have : p = q := funext h
 rw [this]
theorem fF_ {α : Type} (p : α → Bool) (l : List α) : (l.takeWhile p).length + (l.dropWhile p).length = l.length := by
 rw [← List.length_append, List.takeWhile_append_dropWhile]
theorem gA_ {α : Type} (p : α → Bool) (l : List α) : l.take (l.takeWhile p).length = l.takeWhile p := by
 have h := List.takeWhile_append_dropWhile (p := p) (l := l)
 have h2 : (l.takeWhile p ++ l.dropWhile p).take (l.takeWhile p).length = l.takeWhile p := List.take_left' rfl
 rw [h] at h2; exact h2
theorem m4_ {α : Type} (p : α → Bool) (l : List α) : l.drop (l.takeWhile p).length = l.dropWhile p := by
 have h := List.takeWhile_append_dropWhile (p := p) (l := l)
 have h2 : (l.takeWhile p ++ l.dropWhile p).drop (l.takeWhile p).length = l.dropWhile p := List.drop_left' rfl
 rw [h] at h2; exact h2
def zm_ : LC :=
 .seq (.ops [.ki 2 0]) (.seq (.ops [.m 3 0, .s 4 (.lenStr (.tmp 3)), .m 5 0, .s 6 (.call 226 [.tmp 5, .const (.string ⟨#[48, 49, 50, 51, 52, 53, 54, 55, 56, 57]⟩)]), .s 7 (.lenStr (.tmp 6)), .bb 8 .sub false 4 7, .m 2 8])
 .ret)
def wi_ : LF := ⟨1, 9, zm_, [.tmp 2]⟩
theorem z1_ : ar_ Tryz.prog Tryz.f228 wi_ := ah_
theorem hx_ (l : List UInt8) (hl : l.length ≤ 2000000) (h : List Row) : aa_ Tryz.prog 228 [.val (.string (txt l))] h (.val (.int .i64 (l.takeWhile bm_).length)) := by
 refine ai_ mixed Tryz.func228 z1_ rfl rfl ?_ h
 have hw := fF_ bm_ l
 simp (disch := omega) only [wi_, zm_, go_sem, reduceCtorEq, ↓reduceIte]
 refine aa_.call (gv_ l _ (by decide) (by decide) _) ?_
 rw [c0_ o1_]
 simp (disch := omega) only [go_sem, Nat.reduceEqDiff, ↓reduceIte]
 exact aL_ (by omega)
def dd_ (x lo hi : Int) : Bool := decide (lo ≤ x) && decide (x ≤ hi)
def AV_ : LC :=
 .seq (.ops [.s 6 (.mov (.const (.bool false)))]) (.seq (.ops [.m 7 1, .m 8 0, .bb 9 .leq false 7 8, .m 10 9, .g 11 10 true (.mov (.tmp 0)), .g 12 10 true (.mov (.tmp 2)), .g 13 10 true (.bin .leq false (.tmp 11) (.tmp
 12)), .pf 14 10 13, .m 6 14]) .ret)
def va_ : LF := ⟨3, 15, AV_, [.tmp 6]⟩
theorem At_ : ar_ Tryz.prog Tryz.f116 va_ := ah_
theorem fl_ (x lo hi : Int)  (h : List Row) : aa_ Tryz.prog 116 [.val (.int .i64 x), .val (.int .i64 lo), .val (.int .i64 hi)] h (.val (.bool (dd_ x lo hi))) := by
 refine ai_ mixed Tryz.func116 At_ rfl rfl ?_ h
 simp (disch := omega) only [va_, AV_, go_sem, Nat.reduceEqDiff, reduceCtorEq, ↓reduceIte]
 repeat' (first
  | exact af_ _ _
  | (refine ad_ ?_; first | rfl | (simp only [dd_, *, Bool.true_and, Bool.false_and, decide_true, decide_false]; done) | (simp [dd_, *]; done))
  | simp (disch := omega) only [go_sem, Nat.reduceEqDiff, reduceCtorEq, ↓reduceIte]
  | ((first | (apply aQ_; assumption) | (apply aR_; assumption) | (apply a2_; assumption) | (apply a1_; assumption)); intro hb; try simp only [hb])
  | ((first | (apply aF_; assumption) | (apply aD_; assumption) | (apply aK_; assumption) | (apply aJ_; assumption)); intro hb; try simp only [hb])
  | ((first | apply az_ | apply aC_ | apply ak_ | apply am_) <;> intro hb <;> (try simp only [hb]) <;> (first | have hp := aT_ hb | have hp := aV_ hb | have hp := aU_ hb | have hp := aW_ hb | skip)))
def x4_ : LC :=
 .seq (.ops [.s 6 (.mov (.const (.bool false)))]) (.seq (.ops [.m 7 0, .m 8 1, .bb 9 .geq false 7 8, .m 10 9, .g 11 10 true (.mov (.tmp 0)), .g 12 10 true (.mov (.tmp 2)), .g 13 10 true (.bin .leq false (.tmp 11) (.tmp
 12)), .pf 14 10 13, .m 6 14]) .ret)
def vw_ : LF := ⟨3, 15, x4_, [.tmp 6]⟩
theorem AN_ : ar_ Tryz.prog Tryz.f113 vw_ := ah_
theorem g9_ (x lo hi : Int)  (h : List Row) : aa_ Tryz.prog 113 [.val (.int .i64 x), .val (.int .i64 lo), .val (.int .i64 hi)] h (.val (.bool (dd_ x lo hi))) := by
 refine ai_ mixed Tryz.func113 AN_ rfl rfl ?_ h
 simp (disch := omega) only [vw_, x4_, go_sem, Nat.reduceEqDiff, reduceCtorEq, ↓reduceIte]
 repeat' (first
  | exact af_ _ _
  | (refine ad_ ?_; first | rfl | (simp only [dd_, *, Bool.true_and, Bool.false_and, decide_true, decide_false]; done) | (simp [dd_, *]; done))
  | simp (disch := omega) only [go_sem, Nat.reduceEqDiff, reduceCtorEq, ↓reduceIte]
  | ((first | (apply aQ_; assumption) | (apply aR_; assumption) | (apply a2_; assumption) | (apply a1_; assumption)); intro hb; try simp only [hb])
  | ((first | (apply aF_; assumption) | (apply aD_; assumption) | (apply aK_; assumption) | (apply aJ_; assumption)); intro hb; try simp only [hb])
  | ((first | apply az_ | apply aC_ | apply ak_ | apply am_) <;> intro hb <;> (try simp only [hb]) <;> (first | have hp := aT_ hb | have hp := aV_ hb | have hp := aU_ hb | have hp := aW_ hb | skip)))
def x6_ : LC :=
 .seq (.ops [.s 2 (.mov (.const (.bool false)))]) (.seq (.ops [.m 3 0, .s 4 (.call 116 [.tmp 3, .const (.int .i64 (-999999999999999999)), .const (.int .i64 999999999999999999)]), .m 2 4]) .ret)
def wr_ : LF := ⟨1, 5, x6_, [.tmp 2]⟩
theorem Cr_ : ar_ Tryz.prog Tryz.f235 wr_ := ah_
theorem nQ_ (x : Int)  (h : List Row) : aa_ Tryz.prog 235 [.val (.int .i64 x)] h (.val (.bool (dd_ x (-999999999999999999) 999999999999999999))) := by
 refine ai_ mixed Tryz.func235 Cr_ rfl rfl ?_ h
 simp (disch := omega) only [wr_, x6_, go_sem, reduceCtorEq, Int.reduceNeg, ↓reduceIte]
 repeat' (first
  | exact af_ _ _
  | simp (disch := omega) only [go_sem, Int.reduceNeg, ↓reduceIte]
  | (refine aa_.call (fl_ _ _ _ _) ?_)
  | (refine aa_.q (fl_ _ _ _ _) ?_)
  | ((first | (apply aQ_; assumption) | (apply aR_; assumption) | (apply a2_; assumption) | (apply a1_; assumption)); intro hb; try simp only [hb])
  | ((first | (apply aF_; assumption) | (apply aD_; assumption) | (apply aK_; assumption) | (apply aJ_; assumption)); intro hb; try simp only [hb])
  | ((first | apply az_ | apply aC_ | apply ak_ | apply am_) <;> intro hb <;> (try simp only [hb]) <;> (first | have hp := aT_ hb | have hp := aV_ hb | have hp := aU_ hb | have hp := aW_ hb | skip)))
def uE_ : LC :=
 .seq (.ops [.s 2 (.mov (.const (.bool false)))]) (.seq (.ops [.m 3 0, .s 4 (.bin .geq false (.tmp 3) (.const (.int .u8 48))), .m 5 4, .g 6 5 true (.mov (.tmp 0)), .g 7 5 true (.bin .leq false (.tmp 6) (.const (.int .u8
 57))), .pf 8 5 7, .m 2 8]) .ret)
def r3_ : LF := ⟨1, 9, uE_, [.tmp 2]⟩
theorem sR_ : ar_ Tryz.prog Tryz.f220 r3_ := ah_
theorem hP_ (b : UInt8)  (h : List Row) : aa_ Tryz.prog 220 [.val (.int .u8 b.toNat)] h (.val (.bool (bm_ b))) := by
 refine ai_ mixed Tryz.func220 sR_ rfl rfl ?_ h
 simp (disch := omega) only [r3_, uE_, go_sem, reduceCtorEq, ↓reduceIte]
 repeat' (first
  | exact af_ _ _
  | (refine ad_ ?_; rw [Bool.eq_iff_iff]; simp_all [bm_]; omega)
  | simp (disch := omega) only [go_sem, Nat.reduceEqDiff, reduceCtorEq, ↓reduceIte]
  | ((first | (apply aQ_; assumption) | (apply aR_; assumption) | (apply a2_; assumption) | (apply a1_; assumption)); intro hb; try simp only [hb])
  | ((first | (apply aF_; assumption) | (apply aD_; assumption) | (apply aK_; assumption) | (apply aJ_; assumption)); intro hb; try simp only [hb])
  | ((first | apply az_ | apply aC_ | apply ak_ | apply am_) <;> intro hb <;> (try simp only [hb]) <;> (first | have hp := aT_ hb | have hp := aV_ hb | have hp := aU_ hb | have hp := aW_ hb | skip)))
def Ca_ : LC :=
 .seq (.ops [.ki 4 0]) (.seq (.seq (.ops [.m 5 0, .m 6 1, .bb 7 .lss false 5 6]) (.cond (.tmp 7) (.seq (.ops [.m 8 0, .m 4 8]) .ret) .skip)) (.seq (.ops [.m 9 1, .m 4 9]) .ret))
def v6_ : LF := ⟨2, 10, Ca_, [.tmp 4]⟩
theorem yp_ : ar_ Tryz.prog Tryz.f234 v6_ := ah_
theorem el_ (a b : Int)  (h : List Row) : aa_ Tryz.prog 234 [.val (.int .i64 a), .val (.int .i64 b)] h (.val (.int .i64 (min a b))) := by
 refine ai_ mixed Tryz.func234 yp_ rfl rfl ?_ h
 simp (disch := omega) only [v6_, Ca_, go_sem, Nat.reduceEqDiff, reduceCtorEq, ↓reduceIte]
 repeat' (first
  | exact af_ _ _
  | (refine aL_ ?_; have := of_decide_eq_true ‹_›; omega)
  | (refine aL_ ?_; have := of_decide_eq_false ‹_›; omega)
  | simp (disch := omega) only [go_sem, Nat.reduceEqDiff, reduceCtorEq, ↓reduceIte]
  | ((first | (apply aF_; assumption) | (apply aD_; assumption) | (apply aK_; assumption) | (apply aJ_; assumption)); intro hb; try simp only [hb])
  | ((first | apply ak_ | apply am_) <;> intro hb <;> (try simp only [hb]) <;> (first | have hp := aT_ hb | have hp := aV_ hb | have hp := aU_ hb | have hp := aW_ hb | skip)))
theorem ku_ {b : UInt8} (h : bm_ b = true) : 48 ≤ b.toNat ∧ b.toNat ≤ 57 := by simpa [bm_] using h
def AD_ : LC :=
 .seq (.ops [.ki 4 0]) (.seq (.seq (.ops [.m 7 1, .s 8 (.toBytes (.tmp 7)), .ll 9 8, .ki 10 0]) (.block 0 (.loop (.seq (.ops [.bb 11 .lss false 10 9]) (.seq (.cond (.tmp 11) .skip (.exit 0)) (.seq (.block 1 (.seq (.ops
 [.ia 12 1 8 10, .ln 13 12, .m 6 13]) (.seq (.seq (.ops [.m 14 0, .m 15 6, .s 16 (.bin .sub false (.tmp 15) (.const (.int .u8 48))), .s 17 (.convInt .i64 (.tmp 16)), .s 18 (.bin .sub false (.const (.int .i64
 999999999999999999)) (.tmp 17)), .bk 19 .quo false 18 10, .bb 20 .gtr false 14 19]) (.cond (.tmp 20) (.seq (.ops [.ki 4 999999999999999999]) .ret) .skip)) (.ops [.m 21 0, .s 22 (.bin .mul false (.const (.int .i64 10))
 (.tmp 21)), .m 23 6, .s 24 (.bin .sub false (.tmp 23) (.const (.int .u8 48))), .s 25 (.convInt .i64 (.tmp 24)), .bb 26 .add false 22 25, .m 0 26])))) (.ops [.bk 27 .add false 10 1, .m 10 27]))))))) (.seq (.ops [.m 28 0,
 .m 4 28]) .ret))
def vh_ : LF := ⟨2, 29, AD_, [.tmp 4]⟩
theorem zZ_ : ar_ Tryz.prog Tryz.f230 vh_ := ah_
theorem ne_ (n0 : Nat) (l : List UInt8) (hl : l.length ≤ 2000000) (hn : n0 ≤ 999999999999999999) (hd : ∀ b ∈ l, 48 ≤ b.toNat ∧ b.toNat ≤ 57) (h : List Row) : aa_ Tryz.prog 230 [.val (.int .i64 n0), .val (.string (txt l))] h (.val (.int .i64 (fz_ n0 l))) := by
 refine ai_ mixed Tryz.func230 zZ_ rfl rfl ?_ h
 simp (disch := omega) only [vh_, AD_, go_sem, Nat.reduceEqDiff, ↓reduceIte]
 refine aO_ (fun m t h => ∃ k n : Nat, t 0 = .val (.int .i64 n) ∧ t 8 = .list 0 1 (be_ l) ∧ t 9 = .val (.int .i64 l.length) ∧ t 10 = .val (.int .i64 k) ∧ m = l.length - k ∧ k ≤ l.length ∧ n ≤ 999999999999999999 ∧ fz_ n0 l = fz_ n (l.drop k)) l.length ?_ ?_
 ·exact ⟨0, n0, rfl, rfl, rfl, rfl, rfl, Nat.zero_le _, hn, rfl⟩
 ·rintro J hJ m t h ⟨k, n, t0, t8, t9, t10, rfl, hk, hn', hS⟩
  by_cases hlt : k < l.length
  ·rw [cm_ l k hlt, fz_] at hS
   have hr := hd l[k] (List.getElem_mem hlt)
   simp (disch := omega) only [t0, t8, t9, t10, hlt, go_sem, Nat.reduceEqDiff, reduceCtorEq, ↓reduceIte]
   refine am_ (fun hb => ?_) (fun hb => ?_)
   ·have hb' := of_decide_eq_true hb
    rw [if_pos (by unfold dgt; omega)] at hS
    simp (disch := omega) only [go_sem, ↓reduceIte]
    exact aL_ (by rw [hS]; rfl)
   ·have hb' := of_decide_eq_false hb
    rw [if_neg (by unfold dgt; omega)] at hS
    simp (disch := omega) only [t0, t10, go_sem, Nat.reduceEqDiff, reduceCtorEq, ↓reduceIte]
    exact ⟨l.length - (k + 1), by omega, hJ _ _ _ ⟨k + 1, 10 * n + dgt l[k], by simp [upd, dgt]; omega, by simp [upd, t8], by simp [upd, t9], by simp [upd], rfl, by omega, by unfold dgt; omega, hS⟩⟩
  ·rw [List.drop_eq_nil_of_le (by omega), fz_] at hS
   simp (disch := omega) only [t0, t9, t10, hlt, go_sem, reduceCtorEq, ↓reduceIte]
   exact aL_ (by rw [hS])
theorem vY_ (d : List UInt8) : (∃ t, d = 46 :: t ∧ Lib.hasPrefix d [46] = true ∧ Lib.trimPrefix d [46] = t) ∨ (Lib.hasPrefix d [46] = false ∧ ∀ t, d ≠ 46 :: t) := by
 cases d with
 | nil => right; simp [Lib.hasPrefix]
 | cons b t =>
  by_cases h : b = 46
  ·left; subst h; exact ⟨t, rfl, by simp [Lib.hasPrefix, List.isPrefixOf], by simp [Lib.trimPrefix, Lib.hasPrefix, List.isPrefixOf]⟩
  ·right
   have h' : ¬ (46 = b) := fun e => h e.symm
   refine ⟨by simp [Lib.hasPrefix, List.isPrefixOf, h'], fun t' e => ?_⟩
   simp at e; exact h e.1
theorem hj_ {r : List UInt8} (h : ∀ t, r.dropWhile bm_ ≠ 46 :: t) : cx_ r = [] := by
 unfold cx_
 split
 ·rename_i t e; exact absurd e (h t)
 ·rfl
theorem jp_ {r t : List UInt8} (h : r.dropWhile bm_ = 46 :: t) : cx_ r = t.takeWhile bm_ := by
 unfold cx_; rw [h]; rfl
theorem hf_ (l : List UInt8) : ∀ b ∈ l.takeWhile bm_, 48 ≤ b.toNat ∧ b.toNat ≤ 57 := by
 intro b hb
 have := List.all_takeWhile (p := bm_) (l := l)
 exact ku_ (List.all_eq_true.1 this b hb)
theorem pV_ {f : List UInt8} (h : ∀ b ∈ f, 48 ≤ b.toNat ∧ b.toNat ≤ 57) : ∀ b ∈ six f, 48 ≤ b.toNat ∧ b.toNat ≤ 57 := by
 intro b hb
 have hb := List.mem_of_mem_take hb
 rcases List.mem_append.1 hb with q | q
 ·exact h b q
 ·have := List.eq_of_mem_replicate q; subst this; decide
def yg_ : LC :=
 .seq (.ops [.ki 2 0]) (.seq (.ops [.m 10 0, .s 11 (.call 226 [.tmp 10, .const (.string ⟨#[43, 45]⟩)]), .m 3 11]) (.seq (.ops [.m 12 0, .m 13 0, .s 14 (.lenStr (.tmp 13)), .m 15 3, .s 16 (.lenStr (.tmp 15)), .bb 17 .sub
 false 14 16, .s 18 (.sliceStr (.tmp 12) none (some (.tmp 17))), .s 19 (.call 227 [.tmp 18, .const (.string ⟨#[45]⟩)]), .bk 20 .rem false 19 2, .bk 21 .eql false 20 1, .m 4 21]) (.seq (.ops [.m 22 3, .m 23 3, .c1 24 228
 23, .s 25 (.sliceStr (.tmp 22) none (some (.tmp 24))), .m 5 25]) (.seq (.ops [.s 6 (.mov (.const (.string ⟨#[]⟩)))]) (.seq (.seq (.ops [.m 27 3, .m 28 5, .s 29 (.lenStr (.tmp 28)), .s 30 (.sliceStr (.tmp 27) (some (.tmp
 29)) none), .s 31 (.call 229 [.tmp 30, .const (.string ⟨#[46]⟩)]), .m 26 31, .ex 32 26 0, .ex 33 26 1, .m 7 32, .m 8 33]) (.seq (.ops [.m 34 8]) (.cond (.tmp 34) (.ops [.m 35 7, .m 36 7, .c1 37 228 36, .s 38 (.sliceStr
 (.tmp 35) none (some (.tmp 37))), .m 6 38]) .skip))) (.seq (.ops [.m 39 5, .m 40 6, .s 41 (.bin .add false (.tmp 40) (.const (.string ⟨#[48, 48, 48, 48, 48, 48]⟩))), .s 42 (.sliceStr (.tmp 41) none (some (.const (.int
 .i64 6)))), .bb 43 .add false 39 42, .s 44 (.call 230 [.const (.int .i64 0), .tmp 43]), .m 9 44]) (.seq (.seq (.ops [.m 45 4]) (.cond (.tmp 45) (.seq (.ops [.m 46 9, .s 47 (.un .neg (.tmp 46)), .m 2 47]) .ret) .skip))
 (.seq (.ops [.m 48 9, .m 2 48]) .ret))))))))
def vQ_ : LF := ⟨1, 49, yg_, [.tmp 2]⟩
theorem zu_ : ar_ Tryz.prog Tryz.f205 vQ_ := ah_
theorem jQ_ (l : List UInt8) (hl : l.length ≤ 1900000) (h : List Row) : aa_ Tryz.prog 205 [.val (.string (txt l))] h (.val (.int .i64 (bH_ l))) := by
 refine ai_ mixed Tryz.func205 zu_ rfl rfl ?_ h
 have hw := fF_ c8_ l
 have hw2 := fF_ bm_ (l.dropWhile c8_)
 have e1 : ((l.length : Int) - ((l.dropWhile c8_).length : Int)) = ((l.takeWhile c8_).length : Int) := by omega
 have hsg : decide (((l.takeWhile c8_).count 45 : Int) % 2 = 1) = dW_ l := by
  unfold dW_; rw [Bool.eq_iff_iff]; simp; omega
 simp (disch := omega) only [vQ_, yg_, go_sem, reduceCtorEq, ↓reduceIte]
 refine aa_.call (gv_ l _ (by decide) (by decide) _) ?_
 rw [c0_ pq_]
 simp (disch := omega) only [e1, gA_, go_sem, Nat.reduceEqDiff, reduceCtorEq, ↓reduceIte]
 refine aa_.call (lz_ _ 45 _) ?_
 simp (disch := omega) only [hsg, go_sem, Nat.reduceEqDiff, ↓reduceIte]
 have hr : (l.dropWhile c8_) = bg_ l := rfl
 rw [hr] at hw2 hw ⊢
 refine aa_.call (hx_ _ (by omega) _) ?_
 simp (disch := omega) only [gA_, m4_, List.take_length, go_sem, Nat.reduceEqDiff, ↓reduceIte]
 refine aa_.call (jy_ _ _ _) ?_
 have hz := jc_ (cx_ (bg_ l))
 have hq : fz_ 0 ((bg_ l).takeWhile bm_ ++ six (cx_ (bg_ l))) = fx_ l := tZ_ l
 have hfin : ∀ h, aa_ Tryz.prog 230 [.val (.int .i64 0), .val (.string (txt ((bg_ l).takeWhile bm_ ++ six (cx_ (bg_ l)))))] h (.val (.int .i64 (fx_ l))) := by
  intro h
  rw [← hq]
  refine ne_ 0 _ (by simp only [la_]; omega) (by decide) ?_ h
  intro b hb
  rcases List.mem_append.1 hb with q | q
  ·exact hf_ _ b q
  ·exact pV_ (fun b hb => by
    rcases vY_ ((bg_ l).dropWhile bm_) with ⟨t, e, _⟩ | ⟨_, e⟩
    ·rw [jp_ e] at hb; exact hf_ _ b hb
    ·rw [hj_ e] at hb; simp at hb) b q
 have hle := kn_ l
 rcases vY_ ((bg_ l).dropWhile bm_) with ⟨t, e, e2, e3⟩ | ⟨e2, e⟩
 ·have hfr := jp_ e
  have hlt : t.length + 1 ≤ (bg_ l).length := by rw [e] at hw2; simp at hw2; omega
  have hlt2 := fF_ bm_ t
  simp (disch := (try simp only [la_, lc_, ln_]); omega) only [e2, e3, go_sem, Nat.reduceEqDiff, ↓reduceIte]
  refine aa_.call (hx_ t (by omega) _) ?_
  have hsix : (t.takeWhile bm_ ++ [48, 48, 48, 48, 48, 48]).take 6 = six (cx_ (bg_ l)) := by rw [hfr]; rfl
  simp (disch := (try simp only [la_, lc_, ln_]); omega) only [gA_, hsix, go_sem, Nat.reduceEqDiff, Nat.reduceAdd, Nat.reduceLeDiff, Int.reduceLE, Int.reduceToNat, ↓reduceIte]
  refine aa_.call (hfin _) ?_
  simp (disch := (try simp only [la_, lc_, ln_]); omega) only [go_sem, Nat.reduceEqDiff, ↓reduceIte]
  refine am_ (fun hb => ?_) (fun hb => ?_)
  ·simp (disch := (try simp only [la_, lc_, ln_]); omega) only [go_sem, Nat.reduceEqDiff, ↓reduceIte]
   exact aL_ (by unfold bH_; rw [if_pos hb]; omega)
  ·simp (disch := (try simp only [la_, lc_, ln_]); omega) only [go_sem, Nat.reduceEqDiff, ↓reduceIte]
   exact aL_ (by unfold bH_; rw [if_neg (by rw [hb]; decide)])
 ·have hfr := hj_ e
  have hsix2 : ([48, 48, 48, 48, 48, 48] : List UInt8) = six (cx_ (bg_ l)) := by rw [hfr]; rfl
  rw [← hsix2] at hfin
  simp (disch := (try simp only [la_, lc_, ln_]); omega) only [e2, go_sem, Nat.reduceEqDiff, Nat.reduceAdd, Int.reduceLE, Int.reduceToNat, ↓reduceIte]
  refine aa_.call (hfin _) ?_
  simp (disch := (try simp only [la_, lc_, ln_]); omega) only [go_sem, Nat.reduceEqDiff, ↓reduceIte]
  refine am_ (fun hb => ?_) (fun hb => ?_)
  ·simp (disch := (try simp only [la_, lc_, ln_]); omega) only [go_sem, Nat.reduceEqDiff, ↓reduceIte]
   exact aL_ (by unfold bH_; rw [if_pos hb]; omega)
  ·simp (disch := (try simp only [la_, lc_, ln_]); omega) only [go_sem, Nat.reduceEqDiff, ↓reduceIte]
   exact aL_ (by unfold bH_; rw [if_neg (by rw [hb]; decide)])
def iX_ (n : Int) : Bool := dd_ n (-999999999999999999) 999999999999999999
def e5_ (n : Int) : List UInt8 := if iX_ n then bK_ n else []
theorem hp_ (n : Int) : iX_ n = true ↔ -999999999999999999 ≤ n ∧ n ≤ 999999999999999999 := by simp [iX_, dd_]
theorem eQ_ (u : Nat) : Lib.itoa (u : Int) = Lib.decDigits u := by
 unfold Lib.itoa
 rw [if_neg (by omega)]; simp
theorem gK_ (b : UInt8) : ([48] : List UInt8).contains b = (b == 48) := by
 rw [Bool.eq_iff_iff]; simp
theorem cQ_ (u : Nat) (h : u ≠ 0) : cZ_ u = (if 1000000 ≤ u then Lib.decDigits (u / 1000000) else []) ++ (if 0 < u % 1000000 then 46 :: fj_ ((Lib.decDigits (1000000 + u % 1000000)).drop 1) else []) := by
 unfold cZ_
 rw [if_neg h]
 congr 1
 ·unfold cF_
  by_cases q : 1000000 ≤ u
  ·rw [if_neg (by omega), if_pos q]
  ·rw [if_pos (by omega), if_neg q]
 ·unfold jj_
  by_cases q : 0 < u % 1000000
  ·rw [if_neg (by omega), if_pos q]
  ·rw [if_pos (by omega), if_neg q]
theorem fJ_ (u : Nat) (h : u ≤ 999999999999999999) : (Lib.decDigits u).length ≤ 20 ∧ 1 ≤ (Lib.decDigits u).length := by
 rw [Lib.decDigits_eq]
 simp only [List.length_map, List.length_range]
 have := ji_ 18 u (by omega)
 constructor
 ·omega
 ·unfold Lib.nDigits; split <;> omega
def As_ : LC :=
 .seq (.ops [.s 2 (.mov (.const (.string ⟨#[]⟩)))]) (.seq (.seq (.ops [.m 5 0, .c1 6 235 5, .nt 7 6]) (.cond (.tmp 7) (.seq (.ops [.s 2 (.mov (.const (.string ⟨#[]⟩)))]) .ret) .skip)) (.seq (.seq (.ops [.m 8 0, .bk 9 .eql
 false 8 0]) (.cond (.tmp 9) (.seq (.ops [.s 2 (.mov (.const (.string ⟨#[48]⟩)))]) .ret) .skip)) (.seq (.ops [.s 3 (.mov (.const (.string ⟨#[]⟩)))]) (.seq (.seq (.ops [.m 10 0, .bk 11 .lss false 10 0]) (.cond (.tmp 11)
 (.ops [.m 12 0, .s 13 (.un .neg (.tmp 12)), .s 3 (.mov (.const (.string ⟨#[45]⟩))), .m 0 13]) .skip)) (.seq (.seq (.ops [.m 14 0, .bk 15 .geq false 14 1000000]) (.cond (.tmp 15) (.ops [.m 16 3, .m 17 0, .bk 18 .quo false
 17 1000000, .s 19 (.call 236 [.tmp 18, .const (.int .i64 10)]), .bb 20 .add false 16 19, .m 3 20]) .skip)) (.seq (.seq (.ops [.m 21 0, .bk 22 .rem false 21 1000000, .m 4 22]) (.seq (.ops [.m 23 4, .bk 24 .gtr false 23
 0]) (.cond (.tmp 24) (.ops [.m 25 3, .m 26 4, .s 27 (.bin .add false (.const (.int .i64 1000000)) (.tmp 26)), .s 28 (.call 236 [.tmp 27, .const (.int .i64 10)]), .s 29 (.sliceStr (.tmp 28) (some (.const (.int .i64 1)))
 none), .s 30 (.call 237 [.tmp 29, .const (.string ⟨#[48]⟩)]), .s 31 (.bin .add false (.const (.string ⟨#[46]⟩)) (.tmp 30)), .bb 32 .add false 25 31, .m 3 32]) .skip))) (.seq (.ops [.m 33 3, .m 2 33]) .ret)))))))
def wE_ : LF := ⟨1, 34, As_, [.tmp 2]⟩
theorem Cl_ : ar_ Tryz.prog Tryz.f224 wE_ := ah_
theorem ij_ (n : Int) (h : List Row) : aa_ Tryz.prog 224 [.val (.int .i64 n)] h (.val (.string (txt (e5_ n)))) := by
 refine ai_ mixed Tryz.func224 Cl_ rfl rfl ?_ h
 simp (disch := (try simp only [la_, lc_, ln_]); omega) only [wE_, As_, go_sem, reduceCtorEq, ↓reduceIte]
 refine aa_.call (nQ_ n _) ?_
 by_cases hn : iX_ n = true
 ·have hn' := (hp_ n).1 hn
  have hn2 : dd_ n (-999999999999999999) 999999999999999999 = true := hn
  have hres : e5_ n = bK_ n := by unfold e5_; rw [if_pos hn]
  by_cases h0 : n = 0
  ·subst h0
   simp (disch := (try simp only [la_, lc_, ln_]); omega) only [hn2, go_sem, reduceCtorEq, Int.reduceNeg, ↓reduceIte]
   exact bk_ (by rw [hres]; congr 1)
  ·obtain ⟨u, hu⟩ : ∃ u : Nat, u = n.natAbs := ⟨_, rfl⟩
   have hu0 : u ≠ 0 := by omega
   have e2 : ((u : Int) / 1000000) = ((u / 1000000 : Nat) : Int) := by omega
   have e3 : ((u : Int) % 1000000) = ((u % 1000000 : Nat) : Int) := by omega
   have e4 : ((1000000 : Int) + ((u % 1000000 : Nat) : Int)) = ((1000000 + u % 1000000 : Nat) : Int) := by omega
   have hd1 := fJ_ (u / 1000000) (by omega)
   have hd2 := fJ_ (1000000 + u % 1000000) (by omega)
   by_cases hneg : n < 0
   ·have e1 : (0 - n) = (u : Int) := by omega
    have hs : (n < 0) = True := eq_true hneg
    have hnt : bK_ n = [45] ++ cZ_ u := by unfold bK_; rw [if_pos hneg, ← hu]; rfl
    by_cases q1 : 1000000 ≤ u
    ·have hq1 : ((1000000 : Int) ≤ u) = True := by first | (simp; done) | (simp; omega)
     by_cases q2 : 0 < u % 1000000
     ·have hq2 : ((0 : Int) < ((u % 1000000 : Nat) : Int)) = True := by first | (simp; done) | (simp; omega)
      simp (disch := (try simp only [la_, lc_, ln_]); omega) only [hn2, h0, hs, e2, hq1, e1, go_sem, Nat.reduceEqDiff, reduceCtorEq, Int.reduceNeg, ↓reduceIte]
      refine aa_.call (bz_ _ (by omega) (by omega) _) ?_
      rw [eQ_]
      simp (disch := (try simp only [la_, lc_, ln_]); omega) only [e3, hq2, go_sem, Nat.reduceEqDiff, reduceCtorEq, ↓reduceIte]
      refine aa_.call (bz_ _ (by omega) (by omega) _) ?_
      rw [e4, eQ_]
      simp (disch := (try simp only [la_, lc_, ln_]); omega) only [List.take_length, go_sem, Int.reduceLE, Int.reduceToNat, ↓reduceIte]
      refine aa_.call (df_ _ _ (by simp only [List.length_drop]; omega) (by decide) (by decide) _) ?_
      rw [c0_ gK_, ← fj_]
      have htl := eP_ ((Lib.decDigits (1000000 + u % 1000000)).drop 1)
      rw [List.length_drop] at htl
      simp (disch := (try simp only [la_, lc_, ln_]); omega) only [go_sem, Nat.reduceEqDiff, ↓reduceIte]
      exact bk_ (by rw [hres, hnt, cQ_ u hu0, if_pos q1, if_pos q2]; simp)
     ·have hq2 : ((0 : Int) < ((u % 1000000 : Nat) : Int)) = False := by first | (simp; done) | (simp; omega)
      simp (disch := (try simp only [la_, lc_, ln_]); omega) only [hn2, h0, hs, e2, hq1, e1, go_sem, Nat.reduceEqDiff, reduceCtorEq, Int.reduceNeg, ↓reduceIte]
      refine aa_.call (bz_ _ (by omega) (by omega) _) ?_
      rw [eQ_]
      simp (disch := (try simp only [la_, lc_, ln_]); omega) only [e3, hq2, go_sem, Nat.reduceEqDiff, reduceCtorEq, ↓reduceIte]
      exact bk_ (by rw [hres, hnt, cQ_ u hu0, if_pos q1, if_neg q2]; simp)
    ·have hq1 : ((1000000 : Int) ≤ u) = False := by first | (simp; done) | (simp; omega)
     by_cases q2 : 0 < u % 1000000
     ·have hq2 : ((0 : Int) < ((u % 1000000 : Nat) : Int)) = True := by first | (simp; done) | (simp; omega)
      simp (disch := (try simp only [la_, lc_, ln_]); omega) only [hn2, h0, hs, e3, hq1, hq2, e1, go_sem, Nat.reduceEqDiff, reduceCtorEq, Int.reduceNeg, ↓reduceIte]
      refine aa_.call (bz_ _ (by omega) (by omega) _) ?_
      rw [e4, eQ_]
      simp (disch := (try simp only [la_, lc_, ln_]); omega) only [List.take_length, go_sem, Int.reduceLE, Int.reduceToNat, ↓reduceIte]
      refine aa_.call (df_ _ _ (by simp only [List.length_drop]; omega) (by decide) (by decide) _) ?_
      rw [c0_ gK_, ← fj_]
      have htl := eP_ ((Lib.decDigits (1000000 + u % 1000000)).drop 1)
      rw [List.length_drop] at htl
      simp (disch := (try simp only [la_, lc_, ln_]); omega) only [go_sem, Nat.reduceEqDiff, ↓reduceIte]
      exact bk_ (by rw [hres, hnt, cQ_ u hu0, if_neg q1, if_pos q2]; simp)
     ·have hq2 : ((0 : Int) < ((u % 1000000 : Nat) : Int)) = False := by first | (simp; done) | (simp; omega)
      simp (disch := (try simp only [la_, lc_, ln_]); omega) only [hn2, h0, hs, e3, hq1, hq2, e1, go_sem, Nat.reduceEqDiff, reduceCtorEq, Int.reduceNeg, ↓reduceIte]
      exact bk_ (by rw [hres, hnt, cQ_ u hu0, if_neg q1, if_neg q2]; simp)
   ·have e1 : n = (u : Int) := by omega
    have hs : ((u : Int) < 0) = False := by first | (simp; done) | (simp; omega)
    have hnt : bK_ n = [] ++ cZ_ u := by unfold bK_; rw [if_neg hneg, ← hu]; rfl
    clear hu
    subst e1
    by_cases q1 : 1000000 ≤ u
    ·have hq1 : ((1000000 : Int) ≤ u) = True := by first | (simp; done) | (simp; omega)
     by_cases q2 : 0 < u % 1000000
     ·have hq2 : ((0 : Int) < ((u % 1000000 : Nat) : Int)) = True := by first | (simp; done) | (simp; omega)
      simp (disch := (try simp only [la_, lc_, ln_]); omega) only [hn2, h0, hs, e2, hq1, go_sem, Nat.reduceEqDiff, reduceCtorEq, Int.reduceNeg, ↓reduceIte]
      refine aa_.call (bz_ _ (by omega) (by omega) _) ?_
      rw [eQ_]
      simp (disch := (try simp only [la_, lc_, ln_]); omega) only [e3, hq2, go_sem, Nat.reduceEqDiff, reduceCtorEq, ↓reduceIte]
      refine aa_.call (bz_ _ (by omega) (by omega) _) ?_
      rw [e4, eQ_]
      simp (disch := (try simp only [la_, lc_, ln_]); omega) only [List.take_length, go_sem, Int.reduceLE, Int.reduceToNat, ↓reduceIte]
      refine aa_.call (df_ _ _ (by simp only [List.length_drop]; omega) (by decide) (by decide) _) ?_
      rw [c0_ gK_, ← fj_]
      have htl := eP_ ((Lib.decDigits (1000000 + u % 1000000)).drop 1)
      rw [List.length_drop] at htl
      simp (disch := (try simp only [la_, lc_, ln_]); omega) only [go_sem, Nat.reduceEqDiff, ↓reduceIte]
      exact bk_ (by rw [hres, hnt, cQ_ u hu0, if_pos q1, if_pos q2]; simp)
     ·have hq2 : ((0 : Int) < ((u % 1000000 : Nat) : Int)) = False := by first | (simp; done) | (simp; omega)
      simp (disch := (try simp only [la_, lc_, ln_]); omega) only [hn2, h0, hs, e2, hq1, go_sem, Nat.reduceEqDiff, reduceCtorEq, Int.reduceNeg, ↓reduceIte]
      refine aa_.call (bz_ _ (by omega) (by omega) _) ?_
      rw [eQ_]
      simp (disch := (try simp only [la_, lc_, ln_]); omega) only [e3, hq2, go_sem, Nat.reduceEqDiff, reduceCtorEq, ↓reduceIte]
      exact bk_ (by rw [hres, hnt, cQ_ u hu0, if_pos q1, if_neg q2]; simp)
    ·have hq1 : ((1000000 : Int) ≤ u) = False := by first | (simp; done) | (simp; omega)
     by_cases q2 : 0 < u % 1000000
     ·have hq2 : ((0 : Int) < ((u % 1000000 : Nat) : Int)) = True := by first | (simp; done) | (simp; omega)
      simp (disch := (try simp only [la_, lc_, ln_]); omega) only [hn2, h0, hs, e3, hq1, hq2, go_sem, Nat.reduceEqDiff, reduceCtorEq, Int.reduceNeg, ↓reduceIte]
      refine aa_.call (bz_ _ (by omega) (by omega) _) ?_
      rw [e4, eQ_]
      simp (disch := (try simp only [la_, lc_, ln_]); omega) only [List.take_length, go_sem, Int.reduceLE, Int.reduceToNat, ↓reduceIte]
      refine aa_.call (df_ _ _ (by simp only [List.length_drop]; omega) (by decide) (by decide) _) ?_
      rw [c0_ gK_, ← fj_]
      have htl := eP_ ((Lib.decDigits (1000000 + u % 1000000)).drop 1)
      rw [List.length_drop] at htl
      simp (disch := (try simp only [la_, lc_, ln_]); omega) only [go_sem, Nat.reduceEqDiff, ↓reduceIte]
      exact bk_ (by rw [hres, hnt, cQ_ u hu0, if_neg q1, if_pos q2]; simp)
     ·have hq2 : ((0 : Int) < ((u % 1000000 : Nat) : Int)) = False := by first | (simp; done) | (simp; omega)
      simp (disch := (try simp only [la_, lc_, ln_]); omega) only [hn2, h0, hs, e3, hq1, hq2, go_sem, Nat.reduceEqDiff, reduceCtorEq, Int.reduceNeg, ↓reduceIte]
      exact bk_ (by rw [hres, hnt, cQ_ u hu0, if_neg q1, if_neg q2]; simp)
 ·have hn2 : dd_ n (-999999999999999999) 999999999999999999 = false := by simpa [iX_] using hn
  simp (disch := (try simp only [la_, lc_, ln_]); omega) only [hn2, go_sem, Int.reduceNeg, ↓reduceIte]
  exact bk_ (by unfold e5_; rw [if_neg hn])
def yQ_ : LC :=
 .seq (.ops [.s 2 (.mov (.const (.bool false)))]) (.seq (.ops [.m 3 0, .c1 4 205 3, .c1 5 224 4, .m 6 0, .bb 7 .eql false 5 6, .m 2 7]) .ret)
def wu_ : LF := ⟨1, 8, yQ_, [.tmp 2]⟩
theorem z8_ : ar_ Tryz.prog Tryz.f203 wu_ := ah_
theorem s8_ (l : List UInt8) : e5_ (bH_ l) = bK_ (bH_ l) := by
 unfold e5_; rw [if_pos ((hp_ _).2 (ex_ l))]
theorem mF_ (l : List UInt8) (hl : l.length ≤ 1900000) (h : List Row) : aa_ Tryz.prog 203 [.val (.string (txt l))] h (.val (.bool (bJ_ l))) := by
 refine ai_ mixed Tryz.func203 z8_ rfl rfl ?_ h
 simp (disch := (try simp only [la_, lc_, ln_]); omega) only [wu_, yQ_, go_sem, reduceCtorEq, ↓reduceIte]
 refine aa_.call (jQ_ l hl _) ?_
 simp (disch := (try simp only [la_, lc_, ln_]); omega) only [go_sem, ↓reduceIte]
 refine aa_.call (ij_ _ _) ?_
 simp (disch := (try simp only [la_, lc_, ln_]); omega) only [s8_, go_sem, Nat.reduceEqDiff, reduceCtorEq, ↓reduceIte]
 exact ad_ rfl
end Go.Proofs.YtfplhbjggecnpaaGreatDoor
namespace Go.Proofs.YtfplhbjggecnpaaGreatDoor
open Go.AW
set_option linter.unusedVariables false
set_option linter.unusedSimpArgs false
set_option maxRecDepth 4000
def uP_ : LC :=
 .seq (.ops [.s 2 (.mov (.const (.string ⟨#[]⟩)))]) (.seq (.seq (.ops [.m 3 0, .bk 4 .eql false 3 0]) (.cond (.tmp 4) (.seq (.ops [.s 2 (.mov (.const (.string ⟨#[]⟩)))]) .ret) .skip)) (.seq (.dops [.m 5 0, .bk 6 .quo
 false 5 10, .c1 7 223 6, .m 8 0, .bk 9 .rem false 8 10, .s 10 (.bin .add false (.const (.int .i64 48)) (.tmp 9)), .s 11 (.convInt .u8 (.tmp 10)), .s 12 (.buildImm 5 1 (.int .u8 0) 1 [(0, .tmp 11)]), .s 13 (.toStr (.tmp
 12)), .bb 14 .add false 7 13, .m 2 14]) .ret))
def rY_ : LF := ⟨1, 15, uP_, [.tmp 2]⟩
theorem zN_ : ar_ Tryz.prog Tryz.f223 rY_ := ah_
theorem pO_ (u : Nat) (h : u ≠ 0) : cF_ u = cF_ (u / 10) ++ [UInt8.ofNat (48 + u % 10)] := by
 unfold cF_
 rw [if_neg h, Lib.decDigits]
 by_cases q : u < 10
 ·rw [dif_pos q, if_pos (by omega)]
  have : u % 10 = u := by omega
  rw [this]; rfl
 ·rw [dif_neg q, if_neg (by omega)]
theorem lX_ (u : Nat) (h : u ≤ 999999999999999999) : (cF_ u).length ≤ 20 := by
 unfold cF_; split
 ·simp
 ·exact (fJ_ u h).1
theorem hS_ (u : Nat) : u ≤ 999999999999999999 → ∀ h : List Row, aa_ Tryz.prog 223 [.val (.int .i64 u)] h (.val (.string (txt (cF_ u)))) := by
 induction u using Nat.strongRecOn with
 | _ u ih =>
 intro hu h
 refine ai_ mixed Tryz.func223 zN_ rfl rfl ?_ h
 by_cases h0 : u = 0
 ·subst h0
  simp (disch := (try simp only [la_, lc_, ln_]); omega) only [rY_, uP_, go_sem, reduceCtorEq, ↓reduceIte]
  exact bk_ rfl
 ·have h0' : ((u : Int) = 0) = False := by first | (simp; done) | (simp; omega)
  have e2 : ((u : Int) / 10) = ((u / 10 : Nat) : Int) := by omega
  have hl := lX_ (u / 10) (by omega)
  have e5 : UInt8.ofNat (48 + (u : Int) % 10).toNat = UInt8.ofNat (48 + u % 10) := by first | (congr 1; done) | (congr 1; omega)
  simp (disch := (try simp only [la_, lc_, ln_]); omega) only [rY_, uP_, h0', e2, go_sem, Nat.reduceEqDiff, reduceCtorEq, ↓reduceIte]
  refine aa_.q (ih (u / 10) (by omega) (by omega) _) ?_
  simp (disch := (try simp only [la_, lc_, ln_]); omega) only [e5, go_sem]
  exact bk_ (by rw [pO_ u h0])
def t2_ : LC :=
 .seq (.ops [.s 2 (.mov (.const (.string ⟨#[]⟩)))]) (.seq (.seq (.ops [.m 6 0, .bk 7 .lss false 6 0]) (.cond (.tmp 7) (.seq (.ops [.m 8 0, .s 9 (.un .neg (.tmp 8)), .c1 10 196 9, .s 11 (.bin .add false (.const (.string
 ⟨#[45]⟩)) (.tmp 10)), .m 2 11]) .ret) .skip)) (.seq (.ops [.m 12 0, .bk 13 .quo false 12 1000000, .c1 14 223 13, .m 3 14]) (.seq (.ops [.m 15 0, .bk 16 .rem false 15 1000000, .m 4 16]) (.seq (.seq (.ops [.m 17 4, .bk 18
 .gtr false 17 0]) (.cond (.tmp 18) (.seq (.ops [.m 19 4, .s 20 (.bin .add false (.const (.int .i64 1000000)) (.tmp 19)), .c1 21 223 20, .s 22 (.sliceStr (.tmp 21) (some (.const (.int .i64 1))) none), .m 5 22]) (.seq
 (.block 0 (.loop (.seq (.seq (.ops [.m 23 5, .m 24 5, .s 25 (.lenStr (.tmp 24)), .bk 26 .sub false 25 1, .s 27 (.indexStr (.tmp 23) (.tmp 26)), .s 28 (.bin .eql false (.tmp 27) (.const (.int .u8 48)))]) (.cond (.tmp 28)
 .skip (.exit 0))) (.block 1 (.ops [.m 29 5, .m 30 5, .s 31 (.lenStr (.tmp 30)), .bk 32 .sub false 31 1, .s 33 (.sliceStr (.tmp 29) none (some (.tmp 32))), .m 5 33]))))) (.ops [.m 34 3, .m 35 5, .s 36 (.bin .add false
 (.const (.string ⟨#[46]⟩)) (.tmp 35)), .bb 37 .add false 34 36, .m 3 37]))) .skip)) (.seq (.seq (.ops [.m 38 3, .s 39 (.bin .eql false (.tmp 38) (.const (.string ⟨#[]⟩)))]) (.cond (.tmp 39) (.seq (.ops [.s 2 (.mov
 (.const (.string ⟨#[48]⟩)))]) .ret) .skip)) (.seq (.ops [.m 40 3, .m 2 40]) .ret))))))
def rn_ : LF := ⟨1, 41, t2_, [.tmp 2]⟩
theorem ta_ : ar_ Tryz.prog Tryz.f196 rn_ := ah_
theorem ro_ (f : List UInt8) (h : f ≠ []) : fj_ f = if f.getLast h = 48 then fj_ f.dropLast else f := by
 have e : f = f.dropLast ++ [f.getLast h] := (List.dropLast_concat_getLast h).symm
 unfold fj_
 by_cases q : f.getLast h = 48
 ·rw [if_pos q]
  conv => lhs; rw [e]
  rw [List.reverse_append, List.reverse_singleton, List.singleton_append, List.dropWhile_cons, q]
  rfl
 ·rw [if_neg q]
  conv => lhs; rw [e]
  rw [List.reverse_append, List.reverse_singleton, List.singleton_append, List.dropWhile_cons]
  have : (f.getLast h == 48) = false := by simpa using q
  rw [this]
  simp only [Bool.false_eq_true, if_false, List.reverse_cons, List.reverse_reverse]
  exact e.symm
theorem hH_ (u : Nat) (hu : u ≤ 999999999999999999) (h : List Row) : aa_ Tryz.prog 196 [.val (.int .i64 u)] h (.val (.string (txt (cZ_ u)))) := by
 refine ai_ mixed Tryz.func196 ta_ rfl rfl ?_ h
 have hs : ((u : Int) < 0) = False := by first | (simp; done) | (simp; omega)
 have e2 : ((u : Int) / 1000000) = ((u / 1000000 : Nat) : Int) := by omega
 have e3 : ((u : Int) % 1000000) = ((u % 1000000 : Nat) : Int) := by omega
 have e4 : ((1000000 : Int) + ((u % 1000000 : Nat) : Int)) = ((1000000 + u % 1000000 : Nat) : Int) := by omega
 have hw1 := lX_ (u / 1000000) (by omega)
 simp (disch := (try simp only [la_, lc_, ln_]); omega) only [rn_, t2_, hs, e2, go_sem, reduceCtorEq, ↓reduceIte]
 refine aa_.call (hS_ (u / 1000000) (by omega) _) ?_
 by_cases q2 : 0 < u % 1000000
 ·have hq2 : ((0 : Int) < ((u % 1000000 : Nat) : Int)) = True := by first | (simp; done) | (simp; omega)
  have hd2 := fJ_ (1000000 + u % 1000000) (by omega)
  simp (disch := (try simp only [la_, lc_, ln_]); omega) only [hq2, e3, e4, go_sem, Nat.reduceEqDiff, reduceCtorEq, ↓reduceIte]
  refine aa_.call (hS_ (1000000 + u % 1000000) (by omega) _) ?_
  have hwd : cF_ (1000000 + u % 1000000) = Lib.decDigits (1000000 + u % 1000000) := by unfold cF_; rw [if_neg (by omega)]
  rw [hwd]
  simp (disch := (try simp only [la_, lc_, ln_]); omega) only [List.take_length, go_sem, Int.reduceLE, Int.reduceToNat, ↓reduceIte]
  obtain ⟨b0, hb0, hb48⟩ := sV_ (r := u % 1000000) (by omega) (by omega)
  refine aO_ (fun m t h => ∃ f : List UInt8, t 5 = .val (.string (txt f)) ∧ t 3 = .val (.string (txt (cF_ (u / 1000000)))) ∧ m = f.length ∧ f.length ≤ 20 ∧ (∃ b ∈ f, b ≠ 48) ∧ fj_ ((Lib.decDigits (1000000 + u % 1000000)).drop 1) = fj_ f) _ ⟨_, rfl, rfl, rfl, ?_, ⟨b0, hb0, hb48⟩, rfl⟩ ?_
  ·rw [List.length_drop]; omega
  ·rintro J hJ m t h ⟨f, t5, t3, rfl, hf, ⟨b, hb, hbn⟩, hT⟩
   have hne : f ≠ [] := by intro e; subst e; simp at hb
   have hpos : 0 < f.length := List.length_pos_iff.2 hne
   have hlast : f[f.length - 1]? = some (f.getLast hne) := by rw [List.getLast_eq_getElem, List.getElem?_eq_getElem (by omega)]
   have hsub : ((f.length : Int) - 1) = ((f.length - 1 : Nat) : Int) := by omega
   rw [ro_ f hne] at hT
   by_cases q : f.getLast hne = 48
   ·rw [if_pos q] at hT
    have q' : (((f.getLast hne).toNat : Int) = 48) = True := eq_true (by rw [q]; rfl)
    simp (disch := (try simp only [la_, lc_, ln_]); omega) only [t5, hsub, hlast, q', go_sem, Nat.reduceEqDiff, ↓reduceIte]
    refine ⟨f.length - 1, by omega, hJ _ _ _ ⟨f.dropLast, by simp [upd, List.dropLast_eq_take], by simp [upd, t3], by simp, by simp; omega, ⟨b, ?_, hbn⟩, hT⟩⟩
    have e : f = f.dropLast ++ [f.getLast hne] := (List.dropLast_concat_getLast hne).symm
    rw [e] at hb
    rcases List.mem_append.1 hb with z | z
    ·exact z
    ·simp at z; rw [q] at z; exact absurd z hbn
   ·rw [if_neg q] at hT
    have q' : (((f.getLast hne).toNat : Int) = 48) = False := by
     have := oh_ (f.getLast hne) 48
     rw [show ((UInt8.toNat 48 : Nat) : Int) = 48 from rfl] at this
     rw [this]; simp [q]
    have hne2 : (cF_ (u / 1000000) ++ 46 :: f = []) = False := by simp
    simp (disch := (try simp only [la_, lc_, ln_]); omega) only [t5, t3, hsub, hlast, q', hne2, go_sem, Nat.reduceEqDiff, ↓reduceIte]
    exact bk_ (by rw [cZ_, if_neg (by omega), jj_, if_neg (by omega), hT])
 ·have hq2 : ((0 : Int) < ((u % 1000000 : Nat) : Int)) = False := by first | (simp; done) | (simp; omega)
  simp (disch := (try simp only [la_, lc_, ln_]); omega) only [hq2, e3, go_sem, Nat.reduceEqDiff, reduceCtorEq, ↓reduceIte]
  by_cases hu0 : u = 0
  ·subst hu0
   have : (cF_ (0 / 1000000) = []) = True := by simp [cF_]
   simp (disch := (try simp only [la_, lc_, ln_]); omega) only [this, go_sem, ↓reduceIte]
   exact bk_ rfl
  ·have : (cF_ (u / 1000000) = []) = False := by
    have hx : u / 1000000 ≠ 0 := by omega
    simp [cF_, hx, kC_]
   simp (disch := (try simp only [la_, lc_, ln_]); omega) only [this, go_sem, Nat.reduceEqDiff, ↓reduceIte]
   exact bk_ (by rw [cZ_, if_neg hu0, jj_, if_pos (by omega)]; simp)
theorem pS_ (n : Int) (h : n < 0) : bK_ n = 45 :: cZ_ n.natAbs := by unfold bK_; rw [if_pos h]
theorem pK_ (n : Int) (h : 0 ≤ n) : bK_ n = cZ_ n.natAbs := by unfold bK_; rw [if_neg (by omega)]
theorem io_ (n : Int) (h1 : -999999999999999999 ≤ n) (h2 : n ≤ 999999999999999999) (h : List Row) : aa_ Tryz.prog 196 [.val (.int .i64 n)] h (.val (.string (txt (bK_ n)))) := by
 by_cases hneg : n < 0
 ·refine ai_ mixed Tryz.func196 ta_ rfl rfl ?_ h
  have e1 : (0 - n) = ((n.natAbs : Nat) : Int) := by omega
  have hl := iS_ (u := n.natAbs) (by omega)
  simp (disch := (try simp only [la_, lc_, ln_]); omega) only [rn_, t2_, hneg, e1, go_sem, reduceCtorEq, ↓reduceIte]
  refine aa_.call (hH_ n.natAbs (by omega) _) ?_
  simp (disch := (try simp only [la_, lc_, ln_]); omega) only [go_sem, ↓reduceIte]
  exact bk_ (by rw [pS_ n hneg])
 ·have e : n = ((n.natAbs : Nat) : Int) := by omega
  rw [pK_ n (by omega)]
  have := hH_ n.natAbs (by omega) h
  rw [← e] at this
  exact this
theorem t7_ {l : List UInt8} {k : Nat} (hk : k < l.length) (hs : c8_ l[k] = true) {m : Bool} (h : dW_ l = (m != (((l.drop k).takeWhile c8_).count 45 % 2 == 1))) :
 dW_ l = ((m != (l[k] == 45)) != (((l.drop (k + 1)).takeWhile c8_).count 45 % 2 == 1)) := by
 rw [h, cm_ l k hk, List.takeWhile_cons, if_pos hs, List.count_cons]
 generalize ((l.drop (k + 1)).takeWhile c8_).count 45 = c
 by_cases q : l[k] = 45
 ·rw [q]
  have h1 : ((c + 1) % 2 == 1) = !(c % 2 == 1) := by
   rw [Bool.eq_iff_iff]; simp; omega
  simp only [BEq.rfl, if_true, h1]
  cases m <;> cases (c % 2 == 1) <;> rfl
 ·have q' : (l[k] == 45) = false := by simpa using q
  simp [q']
def AH_ : LC :=
 .seq (.ops [.ki 2 0]) (.seq (.ops [.ki 3 0]) (.seq (.ops [.s 4 (.mov (.const (.bool false)))]) (.seq (.block 0 (.loop (.seq (.seq (.ops [.m 7 3, .m 8 0, .s 9 (.lenStr (.tmp 8)), .bb 10 .lss false 7 9, .m 11 10, .g 12 11
 true (.mov (.tmp 0)), .g 13 11 true (.mov (.tmp 3)), .g 14 11 true (.indexStr (.tmp 12) (.tmp 13)), .g 15 11 true (.bin .eql false (.tmp 14) (.const (.int .u8 43))), .g 16 11 true (.mov (.tmp 15)), .g 17 16 false (.mov
 (.tmp 0)), .g 18 16 false (.mov (.tmp 3)), .g 19 16 false (.indexStr (.tmp 17) (.tmp 18)), .g 20 16 false (.bin .eql false (.tmp 19) (.const (.int .u8 45))), .g 21 11 true (.pick (.tmp 16) (.const (.bool true)) (.tmp
 20)), .pf 22 11 21]) (.cond (.tmp 22) .skip (.exit 0))) (.block 1 (.seq (.ops [.m 23 4, .m 24 0, .m 25 3, .s 26 (.indexStr (.tmp 24) (.tmp 25)), .s 27 (.bin .eql false (.tmp 26) (.const (.int .u8 45))), .bb 28 .neq true
 23 27, .m 4 28]) (.ops [.m 29 3, .bk 30 .add false 29 1, .m 3 30])))))) (.seq (.ops [.ki 5 0]) (.seq (.block 2 (.loop (.seq (.seq (.ops [.m 31 3, .m 32 0, .s 33 (.lenStr (.tmp 32)), .bb 34 .lss false 31 33, .m 35 34, .g
 36 35 true (.mov (.tmp 0)), .g 37 35 true (.mov (.tmp 3)), .g 38 35 true (.indexStr (.tmp 36) (.tmp 37)), .g 39 35 true (.call 220 [.tmp 38]), .pf 40 35 39]) (.cond (.tmp 40) .skip (.exit 2))) (.block 3 (.seq (.ops [.m
 41 5, .s 42 (.bin .mul false (.const (.int .i64 10)) (.tmp 41)), .m 43 0, .m 44 3, .s 45 (.indexStr (.tmp 43) (.tmp 44)), .s 46 (.bin .sub false (.tmp 45) (.const (.int .u8 48))), .s 47 (.convInt .i64 (.tmp 46)), .bb 48
 .add false 42 47, .s 49 (.call 234 [.tmp 48, .const (.int .i64 1000000000000)]), .m 5 49]) (.ops [.m 50 3, .bk 51 .add false 50 1, .m 3 51])))))) (.seq (.ops [.m 52 5, .bk 53 .mul false 52 1000000, .s 54 (.call 234 [.tmp
 53, .const (.int .i64 1000000000000000000)]), .m 5 54]) (.seq (.seq (.ops [.m 55 3, .m 56 0, .s 57 (.lenStr (.tmp 56)), .bb 58 .lss false 55 57, .m 59 58, .g 60 59 true (.mov (.tmp 0)), .g 61 59 true (.mov (.tmp 3)), .g
 62 59 true (.indexStr (.tmp 60) (.tmp 61)), .g 63 59 true (.bin .eql false (.tmp 62) (.const (.int .u8 46))), .pf 64 59 63]) (.cond (.tmp 64) (.seq (.ops [.ki 6 100000]) (.seq (.ops [.m 65 3, .bk 66 .add false 65 1, .m 3
 66]) (.block 4 (.loop (.seq (.seq (.ops [.m 67 3, .m 68 0, .s 69 (.lenStr (.tmp 68)), .bb 70 .lss false 67 69, .m 71 70, .g 72 71 true (.mov (.tmp 0)), .g 73 71 true (.mov (.tmp 3)), .g 74 71 true (.indexStr (.tmp 72)
 (.tmp 73)), .g 75 71 true (.call 220 [.tmp 74]), .pf 76 71 75]) (.cond (.tmp 76) .skip (.exit 4))) (.seq (.block 5 (.seq (.ops [.m 79 5, .m 80 0, .m 81 3, .s 82 (.indexStr (.tmp 80) (.tmp 81)), .s 83 (.bin .sub false
 (.tmp 82) (.const (.int .u8 48))), .s 84 (.convInt .i64 (.tmp 83)), .m 85 6, .bb 86 .mul false 84 85, .bb 87 .add false 79 86, .m 5 87]) (.ops [.m 88 6, .bk 89 .quo false 88 10, .m 6 89]))) (.ops [.m 77 3, .bk 78 .add
 false 77 1, .m 3 78]))))))) .skip)) (.seq (.ops [.m 90 5, .s 91 (.call 234 [.tmp 90, .const (.int .i64 999999999999999999)]), .m 5 91]) (.seq (.seq (.ops [.m 92 4]) (.cond (.tmp 92) (.seq (.ops [.m 93 5, .s 94 (.un .neg
 (.tmp 93)), .m 2 94]) .ret) .skip)) (.seq (.ops [.m 95 5, .m 2 95]) .ret))))))))))
def v5_ : LF := ⟨1, 96, AH_, [.tmp 2]⟩
theorem Bn_ : ar_ Tryz.prog Tryz.f222 v5_ := ah_
theorem hb_ (l : List UInt8) (hl : l.length ≤ 1900000) (h : List Row) : aa_ Tryz.prog 222 [.val (.string (txt l))] h (.val (.int .i64 (bH_ l))) := by
 refine ai_ mixed Tryz.func222 Bn_ rfl rfl ?_ h
 simp (disch := (try simp only [la_, lc_, ln_]); omega) only [v5_, AH_, go_sem]
 refine iK_ (fun m t h => ∃ (k : Nat) (s : Bool), t 0 = .val (.string (txt l)) ∧ t 3 = .val (.int .i64 k) ∧ t 4 = .val (.bool s) ∧ m = l.length - k ∧ k ≤ l.length ∧ bg_ l = (l.drop k).dropWhile c8_ ∧ dW_ l = (s != (((l.drop k).takeWhile c8_).count 45 % 2 == 1))) l.length
  (fun t h => ∃ k : Nat, t 0 = .val (.string (txt l)) ∧ t 3 = .val (.int .i64 k) ∧ t 4 = .val (.bool (dW_ l)) ∧ k ≤ l.length ∧ bg_ l = l.drop k) ⟨0, false, rfl, rfl, rfl, rfl, Nat.zero_le _, rfl, by simp [dW_]⟩ ?_ ?_
 ·rintro J hJ k' hE m t h ⟨k, s, t0, t3, t4, rfl, hk, hR, hN⟩
  by_cases hlt : k < l.length
  ·have hu := l3_ l[k]
   have e43 := oh_ l[k] 43
   have e45 := oh_ l[k] 45
   rw [show ((UInt8.toNat 43 : Nat) : Int) = 43 from rfl] at e43
   rw [show ((UInt8.toNat 45 : Nat) : Int) = 45 from rfl] at e45
   by_cases hs : c8_ l[k] = true
   ·have hR' : bg_ l = (l.drop (k + 1)).dropWhile c8_ := by rw [hR, cm_ l k hlt, List.dropWhile_cons, if_pos hs]
    have hN' := t7_ hlt hs hN
    by_cases q : l[k] = 43
    ·have q45 : ¬ (l[k] = 45) := by rw [q]; decide
     have e43' := e43.trans (eq_true q)
     have e45' := e45.trans (eq_false q45)
     simp (disch := (try simp only [la_, lc_, ln_]); omega) only [t0, t3, t4, hlt, e43', e45', go_sem, Nat.reduceEqDiff, reduceCtorEq, ↓reduceIte]
     refine ⟨l.length - (k + 1), by omega, hJ _ _ _ ⟨k + 1, s, by simp [upd, t0], by simp [upd], by simp [upd], rfl, by omega, hR', ?_⟩⟩
     rw [hN', q]; simp
    ·have q45 : l[k] = 45 := by simpa [c8_, q] using hs
     have e43' := e43.trans (eq_false q)
     have e45' := e45.trans (eq_true q45)
     simp (disch := (try simp only [la_, lc_, ln_]); omega) only [t0, t3, t4, hlt, e43', e45', go_sem, Nat.reduceEqDiff, reduceCtorEq, ↓reduceIte]
     refine ⟨l.length - (k + 1), by omega, hJ _ _ _ ⟨k + 1, !s, by simp [upd, t0], by simp [upd], by simp [upd]; try cases s <;> rfl, rfl, by omega, hR', ?_⟩⟩
     rw [hN', q45]; cases s <;> simp
   ·have hs' : c8_ l[k] = false := by simpa using hs
    have q43 : ¬ (l[k] = 43) := by intro e; rw [e] at hs; exact hs rfl
    have q45 : ¬ (l[k] = 45) := by intro e; rw [e] at hs; exact hs rfl
    have e43' := e43.trans (eq_false q43)
    have e45' := e45.trans (eq_false q45)
    have hR' : bg_ l = l.drop k := by rw [hR, cm_ l k hlt, List.dropWhile_cons, hs']; rfl
    have hN' : dW_ l = s := by rw [hN, cm_ l k hlt, List.takeWhile_cons, hs']; simp
    simp (disch := (try simp only [la_, lc_, ln_]); omega) only [t0, t3, hlt, e43', e45', go_sem, Nat.reduceEqDiff, reduceCtorEq, ↓reduceIte]
    exact hE _ _ ⟨k, by simp [upd, t0], by simp [upd, t3], by simp [upd, t4, hN'], hk, hR'⟩
  ·have hR' : bg_ l = l.drop k := by rw [hR, List.drop_eq_nil_of_le (by omega)]; rfl
   have hN' : dW_ l = s := by rw [hN, List.drop_eq_nil_of_le (by omega)]; simp
   simp (disch := (try simp only [la_, lc_, ln_]); omega) only [t0, t3, hlt, go_sem, Nat.reduceEqDiff, reduceCtorEq, ↓reduceIte]
   exact hE _ _ ⟨k, by simp [upd, t0], by simp [upd, t3], by simp [upd, t4, hN'], hk, hR'⟩
 rintro t h ⟨k0, t0, t3, t4, hk0, hR⟩
 simp (disch := (try simp only [la_, lc_, ln_]); omega) only [go_sem]
 refine iK_ (fun m t h => ∃ (k n : Nat), t 0 = .val (.string (txt l)) ∧ t 3 = .val (.int .i64 k) ∧ t 4 = .val (.bool (dW_ l)) ∧ t 5 = .val (.int .i64 n) ∧ m = l.length - k ∧ k ≤ l.length ∧ n ≤ 1000000000000 ∧ (bg_ l).dropWhile bm_ = (l.drop k).dropWhile bm_ ∧ do_ 0 (bg_ l) = do_ n (l.drop k)) (l.length - k0)
  (fun t h => ∃ k : Nat, t 0 = .val (.string (txt l)) ∧ t 3 = .val (.int .i64 k) ∧ t 4 = .val (.bool (dW_ l)) ∧ t 5 = .val (.int .i64 (do_ 0 (bg_ l) : Nat)) ∧ k ≤ l.length ∧ do_ 0 (bg_ l) ≤ 1000000000000 ∧ (bg_ l).dropWhile bm_ = l.drop k) ⟨k0, 0, by simp [upd, t0], by simp [upd, t3], by simp [upd, t4], by simp [upd], rfl, hk0, by decide, by rw [hR], by rw [hR]⟩ ?_ ?_
 ·rintro J hJ k' hE m t h ⟨k, n, t0, t3, t4, t5, rfl, hk, hn, hD, hW⟩
  by_cases hlt : k < l.length
  ·have hu := l3_ l[k]
   simp (disch := (try simp only [la_, lc_, ln_]); omega) only [t0, t3, hlt, go_sem, Nat.reduceEqDiff, reduceCtorEq, ↓reduceIte]
   refine aa_.call (hP_ l[k] _) ?_
   by_cases hd : bm_ l[k] = true
   ·have hr := ku_ hd
    rw [cm_ l k hlt, do_, if_pos hd] at hW
    rw [cm_ l k hlt, List.dropWhile_cons, if_pos hd] at hD
    simp (disch := (try simp only [la_, lc_, ln_]); omega) only [t0, t3, t5, hd, go_sem, Nat.reduceEqDiff, reduceCtorEq, ↓reduceIte]
    refine aa_.call (el_ _ _ _) ?_
    simp (disch := (try simp only [la_, lc_, ln_]); omega) only [t3, go_sem, Nat.reduceEqDiff, ↓reduceIte]
    refine ⟨l.length - (k + 1), by omega, hJ _ _ _ ⟨k + 1, min (10 * n + dgt l[k]) 1000000000000, by simp [upd, t0], by simp [upd], by simp [upd, t4], ?_, rfl, by omega, by omega, hD, hW⟩⟩
    simp only [upd, dgt]; simp; omega
   ·have hd' : bm_ l[k] = false := by simpa using hd
    rw [cm_ l k hlt, do_, if_neg hd] at hW
    have hD' : (bg_ l).dropWhile bm_ = l.drop k := by rw [hD, cm_ l k hlt, List.dropWhile_cons, hd']; rfl
    simp (disch := (try simp only [la_, lc_, ln_]); omega) only [hd', go_sem, Nat.reduceEqDiff, ↓reduceIte]
    exact hE _ _ ⟨k, by simp [upd, t0], by simp [upd, t3], by simp [upd, t4], by simp [upd, t5, hW], hk, by omega, hD'⟩
  ·rw [List.drop_eq_nil_of_le (by omega), do_] at hW
   have hD' : (bg_ l).dropWhile bm_ = l.drop k := by rw [hD, List.drop_eq_nil_of_le (by omega)]; rfl
   simp (disch := (try simp only [la_, lc_, ln_]); omega) only [t0, t3, hlt, go_sem, Nat.reduceEqDiff, reduceCtorEq, ↓reduceIte]
   exact hE _ _ ⟨k, by simp [upd, t0], by simp [upd, t3], by simp [upd, t4], by simp [upd, t5, hW], hk, by omega, hD'⟩
 rintro t h ⟨k1, t0, t3, t4, t5, hk1, hwl, hD⟩
 simp (disch := (try simp only [la_, lc_, ln_]); omega) only [t5, go_sem, ↓reduceIte]
 refine aa_.call (el_ _ _ _) ?_
 obtain ⟨n1, hn1⟩ : ∃ n1 : Nat, n1 = min (do_ 0 (bg_ l) * 1000000) 1000000000000000000 := ⟨_, rfl⟩
 have en1 : min ((do_ 0 (bg_ l) : Int) * 1000000) 1000000000000000000 = (n1 : Int) := by omega
 rw [en1]
 have hle := kn_ l
 have hab : min (n1 + c9_ 0 (six (cx_ (bg_ l)))) 999999999999999999 = fx_ l := by rw [hn1]; exact tJ_ l
 have habI : ∀ x : Nat, x = n1 + c9_ 0 (six (cx_ (bg_ l))) → min (x : Int) 999999999999999999 = (fx_ l : Int) := by intro x hx; omega
 have hn1le : n1 ≤ 1000000000000000000 := by omega
 by_cases hlt : k1 < l.length
 case neg =>
  have hfr : cx_ (bg_ l) = [] := hj_ (by rw [hD, List.drop_eq_nil_of_le (by omega)]; simp)
  have hz := habI n1 (by rw [hfr]; rfl)
  simp (disch := (try simp only [la_, lc_, ln_]); omega) only [t0, t3, hlt, go_sem, Nat.reduceEqDiff, reduceCtorEq, ↓reduceIte]
  refine aa_.call (el_ _ _ _) ?_
  simp (disch := (try simp only [la_, lc_, ln_]); omega) only [t4, hz, go_sem, Nat.reduceEqDiff, ↓reduceIte]
  refine am_ (fun hb => ?_) (fun hb => ?_)
  ·simp (disch := (try simp only [la_, lc_, ln_]); omega) only [go_sem, Nat.reduceEqDiff, ↓reduceIte]
   exact aL_ (by unfold bH_; rw [if_pos hb]; omega)
  ·simp (disch := (try simp only [la_, lc_, ln_]); omega) only [go_sem, Nat.reduceEqDiff, ↓reduceIte]
   exact aL_ (by unfold bH_; rw [if_neg (by rw [hb]; decide)])
 have e46 := oh_ l[k1] 46
 rw [show ((UInt8.toNat 46 : Nat) : Int) = 46 from rfl] at e46
 by_cases hdot : l[k1] = 46
 case neg =>
  have e46' := e46.trans (eq_false hdot)
  have hfr : cx_ (bg_ l) = [] := hj_ (by rw [hD, cm_ l k1 hlt]; intro t e; exact hdot (List.cons.inj e).1)
  have hz := habI n1 (by rw [hfr]; rfl)
  simp (disch := (try simp only [la_, lc_, ln_]); omega) only [t0, t3, hlt, e46', go_sem, Nat.reduceEqDiff, reduceCtorEq, ↓reduceIte]
  refine aa_.call (el_ _ _ _) ?_
  simp (disch := (try simp only [la_, lc_, ln_]); omega) only [t4, hz, go_sem, Nat.reduceEqDiff, ↓reduceIte]
  refine am_ (fun hb => ?_) (fun hb => ?_)
  ·simp (disch := (try simp only [la_, lc_, ln_]); omega) only [go_sem, Nat.reduceEqDiff, ↓reduceIte]
   exact aL_ (by unfold bH_; rw [if_pos hb]; omega)
  ·simp (disch := (try simp only [la_, lc_, ln_]); omega) only [go_sem, Nat.reduceEqDiff, ↓reduceIte]
   exact aL_ (by unfold bH_; rw [if_neg (by rw [hb]; decide)])
 have e46' := e46.trans (eq_true hdot)
 have hfr : cx_ (bg_ l) = (l.drop (k1 + 1)).takeWhile bm_ := jp_ (by rw [hD, cm_ l k1 hlt, hdot])
 have hrun : n1 + c9_ 0 (six (cx_ (bg_ l))) = ef_ n1 100000 (l.drop (k1 + 1)) := by
  rw [hfr]; exact (jv_ (l.drop (k1 + 1)) n1 6 (by decide)).symm
 simp (disch := (try simp only [la_, lc_, ln_]); omega) only [t0, t3, hlt, e46', go_sem, Nat.reduceEqDiff, reduceCtorEq, ↓reduceIte]
 refine iK_ (fun m t h => ∃ (k n u : Nat), t 0 = .val (.string (txt l)) ∧ t 3 = .val (.int .i64 k) ∧ t 4 = .val (.bool (dW_ l)) ∧ t 5 = .val (.int .i64 n) ∧ t 6 = .val (.int .i64 u) ∧ m = l.length - k ∧ k ≤ l.length ∧ n + 10 * u ≤ 1000000000001000000 ∧ ef_ n1 100000 (l.drop (k1 + 1)) = ef_ n u (l.drop k)) (l.length - (k1 + 1))
  (fun t h => t 4 = .val (.bool (dW_ l)) ∧ t 5 = .val (.int .i64 (ef_ n1 100000 (l.drop (k1 + 1)) : Nat))) ⟨k1 + 1, n1, 100000, by simp [upd, t0], by simp [upd], by simp [upd, t4], by simp [upd], by simp [upd], rfl, by omega, by omega, rfl⟩ ?_ ?_
 ·rintro J hJ k' hE m t h ⟨k, n, u, t0, t3, t4, t5, t6, rfl, hk, hb, hF⟩
  by_cases hlt : k < l.length
  ·have hu := l3_ l[k]
   simp (disch := (try simp only [la_, lc_, ln_]); omega) only [t0, t3, hlt, go_sem, Nat.reduceEqDiff, reduceCtorEq, ↓reduceIte]
   refine aa_.call (hP_ l[k] _) ?_
   by_cases hd : bm_ l[k] = true
   ·have hr := ku_ hd
    rw [cm_ l k hlt, ef_, if_pos hd] at hF
    have hmul : dgt l[k] * u ≤ 9 * u := Nat.mul_le_mul_right _ (by unfold dgt; omega)
    have e5 : (((l[k].toNat : Nat) : Int) - 48) * ((u : Nat) : Int) = ((dgt l[k] * u : Nat) : Int) := by
     have : ((l[k].toNat : Nat) : Int) - 48 = ((dgt l[k] : Nat) : Int) := by unfold dgt; omega
     rw [this]; simp
    have e6 : ((u : Nat) : Int) / 10 = ((u / 10 : Nat) : Int) := by omega
    simp (disch := (try simp only [la_, lc_, ln_]); omega) only [t0, t3, t5, t6, hd, e5, e6, go_sem, Nat.reduceEqDiff, reduceCtorEq, ↓reduceIte]
    refine ⟨l.length - (k + 1), by omega, hJ _ _ _ ⟨k + 1, n + dgt l[k] * u, u / 10, by simp [upd, t0], by simp [upd], by simp [upd, t4], by simp [upd], by simp [upd], rfl, by omega, by omega, hF⟩⟩
   ·have hd' : bm_ l[k] = false := by simpa using hd
    rw [cm_ l k hlt, ef_, if_neg hd] at hF
    simp (disch := (try simp only [la_, lc_, ln_]); omega) only [hd', go_sem, Nat.reduceEqDiff, ↓reduceIte]
    exact hE _ _ ⟨by simp [upd, t4], by simp [upd, t5, hF]⟩
  ·have hnil : l.drop k = [] := List.drop_eq_nil_of_le (by omega)
   rw [hnil, ef_] at hF
   simp (disch := (try simp only [la_, lc_, ln_]); omega) only [t0, t3, hlt, go_sem, Nat.reduceEqDiff, reduceCtorEq, ↓reduceIte]
   exact hE _ _ ⟨by simp [upd, t4], by simp [upd, t5, hF]⟩
 rintro t h ⟨t4, t5⟩
 have hz := habI _ hrun.symm
 simp (disch := (try simp only [la_, lc_, ln_]); omega) only [t5, go_sem, ↓reduceIte]
 refine aa_.call (el_ _ _ _) ?_
 simp (disch := (try simp only [la_, lc_, ln_]); omega) only [t4, hz, go_sem, Nat.reduceEqDiff, ↓reduceIte]
 refine am_ (fun hb => ?_) (fun hb => ?_)
 ·simp (disch := (try simp only [la_, lc_, ln_]); omega) only [go_sem, Nat.reduceEqDiff, ↓reduceIte]
  exact aL_ (by unfold bH_; rw [if_pos hb]; omega)
 ·simp (disch := (try simp only [la_, lc_, ln_]); omega) only [go_sem, Nat.reduceEqDiff, ↓reduceIte]
  exact aL_ (by unfold bH_; rw [if_neg (by rw [hb]; decide)])
def sc_ : LC :=
 .seq (.ops [.s 2 (.mov (.const (.bool false)))]) (.seq (.ops [.m 3 0, .s 4 (.bin .neq false (.tmp 3) (.const (.string ⟨#[]⟩))), .m 5 4, .g 6 5 true (.mov (.tmp 0)), .g 7 5 true (.lenStr (.tmp 6)), .g 8 5 true (.bin .leq
 false (.tmp 7) (.const (.int .i64 21))), .pf 9 5 8, .m 10 9, .g 11 10 true (.mov (.tmp 0)), .g 12 10 true (.call 222 [.tmp 11]), .g 13 10 true (.call 196 [.tmp 12]), .g 14 10 true (.mov (.tmp 0)), .g 15 10 true (.bin
 .eql false (.tmp 13) (.tmp 14)), .pf 16 10 15, .m 2 16]) .ret)
def od_ : LF := ⟨1, 17, sc_, [.tmp 2]⟩
theorem xQ_ : ar_ Tryz.prog Tryz.f221 od_ := ah_
theorem hL_ (l : List UInt8) (hl : l.length ≤ 1900000) (h : List Row) : aa_ Tryz.prog 221 [.val (.string (txt l))] h (.val (.bool (bJ_ l))) := by
 refine ai_ mixed Tryz.func221 xQ_ rfl rfl ?_ h
 rw [← q5_]
 have hr := ex_ l
 by_cases h0 : l = []
 ·have h0' : (l = []) = True := eq_true h0
  simp (disch := (try simp only [la_, lc_, ln_]); omega) only [od_, sc_, h0', go_sem, Nat.reduceEqDiff, reduceCtorEq, ↓reduceIte]
  exact ad_ (by simp [h0])
 ·have h0' : (l = []) = False := eq_false h0
  by_cases h21 : (l.length : Int) ≤ 21
  ·simp (disch := (try simp only [la_, lc_, ln_]); omega) only [od_, sc_, h0', h21, go_sem, Nat.reduceEqDiff, reduceCtorEq, ↓reduceIte]
   refine aa_.call (hb_ l hl _) ?_
   simp (disch := (try simp only [la_, lc_, ln_]); omega) only [go_sem, Nat.reduceEqDiff, ↓reduceIte]
   refine aa_.call (io_ _ hr.1 hr.2 _) ?_
   simp (disch := (try simp only [la_, lc_, ln_]); omega) only [go_sem, Nat.reduceEqDiff, reduceCtorEq, ↓reduceIte]
   have : l.length ≤ 21 := by omega
   exact ad_ (by simp [this])
  ·simp (disch := (try simp only [la_, lc_, ln_]); omega) only [od_, sc_, h0', h21, go_sem, Nat.reduceEqDiff, reduceCtorEq, ↓reduceIte]
   have : ¬ (l.length ≤ 21) := by omega
   exact ad_ (by simp [this])
end Go.Proofs.YtfplhbjggecnpaaGreatDoor
namespace Go.AW
set_option linter.unusedSimpArgs false
theorem eH_ : ∀ a : List UInt8, Op.bytesLess a a = false
 | [] => rfl
 | x :: a => by simp [Op.bytesLess, eH_ a, UInt8.lt_irrefl]
theorem hq_ : ∀ a b : List UInt8, Op.bytesLess a b = false → Op.bytesLess b a = false → a = b
 | [], [], _, _ => rfl
 | [], _ :: _, h, _ => by simp [Op.bytesLess] at h
 | _ :: _, [], _, h => by simp [Op.bytesLess] at h
 | x :: a, y :: b, h1, h2 => by
  simp only [Op.bytesLess, Bool.or_eq_false_iff, Bool.and_eq_false_iff, decide_eq_false_iff_not, beq_eq_false_iff_ne] at h1 h2
  have e : x = y := UInt8.le_antisymm (UInt8.not_lt.1 h2.1) (UInt8.not_lt.1 h1.1)
  subst e
  rw [hq_ a b (by simpa using h1.2) (by simpa using h2.2)]
theorem mu_ : ∀ a b : List UInt8, Op.bytesLess a b = true → Op.bytesLess b a = false
 | [], [], h => by simp [Op.bytesLess] at h
 | [], _ :: _, _ => rfl
 | _ :: _, [], h => by simp [Op.bytesLess] at h
 | x :: a, y :: b, h => by
  simp only [Op.bytesLess, Bool.or_eq_true, Bool.and_eq_true, decide_eq_true_eq, beq_iff_eq] at h
  simp only [Op.bytesLess, Bool.or_eq_false_iff, Bool.and_eq_false_iff, decide_eq_false_iff_not, beq_eq_false_iff_ne]
  rcases h with h | ⟨h, k⟩
  ·exact ⟨fun q => UInt8.lt_irrefl x (UInt8.lt_trans h q), .inl fun e => by subst e; exact UInt8.lt_irrefl _ h⟩
  ·subst h
   exact ⟨UInt8.lt_irrefl _, .inr (mu_ a b k)⟩
def iw_ (a b : List UInt8) : Int := if Op.bytesLess a b then -1 else if Op.bytesLess b a then 1 else 0
def kp_ (a b : Int) : Int := if a < b then -1 else if b < a then 1 else 0
theorem g4_ (a b : List UInt8) : iw_ a b = 0 ↔ a = b := by
 unfold iw_
 constructor
 ·intro h
  split at h
  ·simp at h
  ·split at h
   ·simp at h
   ·exact hq_ a b (by simpa using ‹¬ Op.bytesLess a b = true›) (by simpa using ‹¬ Op.bytesLess b a = true›)
 ·rintro rfl; simp [eH_]
theorem ou_ (a b : List UInt8) : iw_ a b < 0 ↔ Op.bytesLess a b = true := by
 unfold iw_
 split
 ·simp_all
 ·split <;> simp_all
theorem sO_ (a b : Int) : kp_ a b = 0 ↔ a = b := by
 unfold kp_
 split
 ·omega
 ·split <;> omega
theorem ts_ (a b : Int) : kp_ a b < 0 ↔ a < b := by
 unfold kp_
 split
 ·omega
 ·split <;> omega
def c6_ (a b : List UInt8) : Int := if bJ_ a && bJ_ b then kp_ (bH_ a) (bH_ b) else if bJ_ a then -1 else if bJ_ b then 1 else iw_ a b
def before (a b : List UInt8) : Bool := if bJ_ a && bJ_ b then decide (bH_ a < bH_ b) else if bJ_ a != bJ_ b then bJ_ a else Op.bytesLess a b
theorem e4_ (a b : List UInt8) : c6_ a b = 0 ↔ a = b := by
 unfold c6_
 cases ha : bJ_ a <;> cases hb : bJ_ b <;> simp only [Bool.and_true, Bool.and_false, Bool.false_eq_true, if_true, if_false]
 ·exact g4_ a b
 ·constructor
  ·intro h; simp at h
  ·rintro rfl; rw [ha] at hb; simp at hb
 ·constructor
  ·intro h; simp at h
  ·rintro rfl; rw [ha] at hb; simp at hb
 ·rw [sO_]
  exact ⟨st_ ha hb, fun h => by rw [h]⟩
theorem iC_ (a b : List UInt8) : c6_ a b < 0 ↔ before a b = true := by
 unfold c6_ before
 cases ha : bJ_ a <;> cases hb : bJ_ b <;> simp only [Bool.and_true, Bool.and_false, Bool.false_eq_true, if_true, if_false, bne_self_eq_false]
 ·exact ou_ a b
 ·simp
 ·simp
 ·rw [ts_]; simp
def fs_ : List (List UInt8) → List (List UInt8) → Int
 | [], [] => 0
 | [], _ :: _ => -1
 | _ :: _, [] => 1
 | x :: xs, y :: ys => if c6_ x y = 0 then fs_ xs ys else c6_ x y
def bV_ : List (List UInt8) → List (List UInt8) → Bool
 | [], [] => false
 | [], _ :: _ => true
 | _ :: _, [] => false
 | x :: xs, y :: ys => if x = y then bV_ xs ys else before x y
theorem lm_ : ∀ xs ys, fs_ xs ys < 0 ↔ bV_ xs ys = true
 | [], [] => by simp [fs_, bV_]
 | [], _ :: _ => by simp [fs_, bV_]
 | _ :: _, [] => by simp [fs_, bV_]
 | x :: xs, y :: ys => by
  simp only [fs_, bV_]
  by_cases h : x = y
  ·rw [if_pos ((e4_ x y).2 h), if_pos h]; exact lm_ xs ys
  ·rw [if_neg (fun q => h ((e4_ x y).1 q)), if_neg h]; exact iC_ x y
theorem nu_ : ∀ xs ys, fs_ xs ys = 0 ↔ xs = ys
 | [], [] => by simp [fs_]
 | [], _ :: _ => by simp [fs_]
 | _ :: _, [] => by simp [fs_]
 | x :: xs, y :: ys => by
  simp only [fs_]
  by_cases h : x = y
  ·rw [if_pos ((e4_ x y).2 h), nu_ xs ys]; simp [h]
  ·have := fun q => h ((e4_ x y).1 q)
   rw [if_neg this]; simp only [List.cons.injEq, h, false_and, iff_false]; exact this
def gE_ (n : List UInt8) (s : List (List UInt8)) (o : List UInt8) (os : List (List UInt8)) : Int := if iw_ n o = 0 then fs_ s os else iw_ n o
def dS_ (n : List UInt8) (s : List (List UInt8)) (o : List UInt8) (os : List (List UInt8)) : Bool := if n = o then bV_ s os else Op.bytesLess n o
theorem op_ (n : List UInt8) (s : List (List UInt8)) (o : List UInt8) (os : List (List UInt8)) : gE_ n s o os < 0 ↔ dS_ n s o os = true := by
 unfold gE_ dS_
 by_cases h : n = o
 ·rw [if_pos ((g4_ n o).2 h), if_pos h]; exact lm_ s os
 ·rw [if_neg (fun q => h ((g4_ n o).1 q)), if_neg h]; exact ou_ n o
theorem tm_ (n : List UInt8) (s : List (List UInt8)) (o : List UInt8) (os : List (List UInt8)) : gE_ n s o os = 0 ↔ n = o ∧ s = os := by
 unfold gE_
 by_cases h : n = o
 ·rw [if_pos ((g4_ n o).2 h), nu_]; simp [h]
 ·have := fun q => h ((g4_ n o).1 q)
  rw [if_neg this]; simp only [h, false_and, iff_false]; exact this
def dc_ (n j : Nat) : UInt8 := UInt8.ofNat (n / 256 ^ j % 256)
def be8 (n : Nat) : List UInt8 := [dc_ n 7, dc_ n 6, dc_ n 5, dc_ n 4, dc_ n 3, dc_ n 2, dc_ n 1, dc_ n 0]
def b9_ (acc : Nat) (l : List UInt8) : Nat := l.foldl (fun a b => a * 256 + b.toNat) acc
theorem kv_ (n j : Nat) : (dc_ n j).toNat = n / 256 ^ j % 256 := by
 unfold dc_; rw [UInt8.toNat_ofNat']; omega
theorem or_ (n : Nat) (h : n < 18446744073709551616) : b9_ 0 (be8 n) = n := by
 simp only [b9_, be8, List.foldl_cons, List.foldl_nil, kv_, Nat.reducePow]
 omega
theorem ol_ (acc : Nat) : b9_ acc [] = acc := by unfold b9_; rw [List.foldl_nil]
theorem sN_ (acc : Nat) (b : UInt8) (l : List UInt8) : b9_ acc (b :: l) = b9_ (acc * 256 + b.toNat) l := by unfold b9_; rw [List.foldl_cons]
theorem mZ_ : ∀ (l : List UInt8) (acc : Nat), b9_ acc l < (acc + 1) * 256 ^ l.length
 | [], acc => by rw [ol_]; simp
 | b :: l, acc => by
  rw [sN_]
  have h := mZ_ l (acc * 256 + b.toNat)
  have hb := b.toNat_lt
  have h2 : (acc * 256 + b.toNat + 1) * 256 ^ l.length ≤ ((acc + 1) * 256) * 256 ^ l.length := Nat.mul_le_mul_right _ (by omega)
  rw [lc_, Nat.pow_succ, Nat.mul_comm (256 ^ l.length), ← Nat.mul_assoc]
  omega
def esc : List UInt8 → List UInt8
 | [] => []
 | b :: l => if b = 0 then 0 :: 255 :: esc l else b :: esc l
def c4_ (l : List UInt8) : Nat := (bH_ l + 1000000000000000000).toNat
def cf_ (l : List UInt8) : List UInt8 := if bJ_ l then 1 :: be8 (c4_ l) else 2 :: (esc l ++ [0, 0])
def cE_ (xs : List (List UInt8)) : List UInt8 := xs.flatMap cf_
theorem o5_ : cE_ [] = [] := rfl
theorem nP_ (x : List UInt8) (xs : List (List UInt8)) : cE_ (x :: xs) = cf_ x ++ cE_ xs := rfl
theorem sP_ (l : List UInt8) : cf_ l ≠ [] := by unfold cf_; split <;> simp
theorem hZ_ (l : List UInt8) : 1 ≤ c4_ l ∧ c4_ l ≤ 1999999999999999999 := by
 have := ex_ l
 unfold c4_; omega
theorem h6_ (l : List UInt8) : ((c4_ l : Nat) : Int) = bH_ l + 1000000000000000000 := by
 have := ex_ l
 unfold c4_; omega
theorem jq_ : ∀ l : List UInt8, (esc l).length ≤ 2 * l.length
 | [] => by simp [esc]
 | b :: l => by
  have := jq_ l
  unfold esc
  split <;> simp only [lc_] <;> omega
theorem jM_ (l : List UInt8) : (cf_ l).length ≤ 2 * l.length + 9 := by
 have := jq_ l
 unfold cf_
 split
 ·simp [be8]
 ·simp only [lc_, la_, ln_]; omega
def cc_ : List UInt8 → List UInt8 → Option (List UInt8 × List UInt8)
 | b :: c :: r, acc => if b = 0 then (if c = 0 then some (acc, r) else if c = 255 then cc_ r (acc ++ [0]) else none) else cc_ (c :: r) (acc ++ [b])
 | [_], _ => none
 | [], _ => none
theorem gX_ (b c : UInt8) (r acc : List UInt8) : cc_ (b :: c :: r) acc = if b = 0 then (if c = 0 then some (acc, r) else if c = 255 then cc_ r (acc ++ [0]) else none) else cc_ (c :: r) (acc ++ [b]) := by
 rw [cc_]
theorem pH_ (l acc : List UInt8) (h : l.length < 2) : cc_ l acc = none := by
 match l, h with
 | [], _ => rw [cc_]
 | [_], _ => rw [cc_]
theorem l2_ (l acc : List UInt8) (i : Nat) (h : i + 1 < l.length) : cc_ (l.drop i) acc = if l[i] = 0 then (if l[i + 1] = 0 then some (acc, l.drop (i + 2)) else if l[i + 1] = 255 then cc_ (l.drop (i + 2)) (acc ++ [0]) else none) else cc_ (l.drop (i + 1)) (acc ++ [l[i]]) := by
 rw [List.drop_eq_getElem_cons (by omega : i < l.length), List.drop_eq_getElem_cons h, gX_]
theorem nC_ (l acc : List UInt8) (i : Nat) (h : l.length ≤ i + 1) : cc_ (l.drop i) acc = none :=
 pH_ _ _ (by rw [List.length_drop]; omega)
theorem ic_ : ∀ (l acc t r : List UInt8), cc_ l acc = some (t, r) → t.length ≤ acc.length + l.length ∧ r.length ≤ l.length
 | [], acc, t, r, h => by rw [cc_] at h; cases h
 | [_], acc, t, r, h => by rw [cc_] at h; cases h
 | b :: c :: l, acc, t, r, h => by
  rw [gX_] at h
  split at h
  ·split at h
   ·simp only [Option.some.injEq, Prod.mk.injEq] at h
    obtain ⟨rfl, rfl⟩ := h
    simp only [lc_]; omega
   ·split at h
    ·have := ic_ l _ t r h
     simp only [la_, lc_, ln_] at this ⊢; omega
    ·cases h
  ·have := ic_ (c :: l) _ t r h
   simp only [la_, lc_, ln_] at this ⊢; omega
theorem j7_ : ∀ (x rest acc : List UInt8), cc_ (esc x ++ (0 :: 0 :: rest)) acc = some (acc ++ x, rest)
 | [], rest, acc => by
  rw [esc, List.nil_append, gX_, if_pos rfl, if_pos rfl, List.append_nil]
 | b :: x, rest, acc => by
  have ih := j7_ x rest (acc ++ [b])
  by_cases h : b = 0
  ·subst h
   rw [esc, if_pos rfl, List.cons_append, List.cons_append, gX_, if_pos rfl, if_neg (by decide), if_pos rfl, ih, List.append_assoc]
   rfl
  ·rw [esc, if_neg h, List.cons_append]
   cases hq : esc x ++ (0 :: 0 :: rest) with
   | nil => simp at hq
   | cons c r => rw [gX_, if_neg h, ← hq, ih, List.append_assoc]; rfl
def gB_ (n : Int) : List UInt8 := if -999999999999999999 ≤ n ∧ n ≤ 999999999999999999 then bK_ n else []
def dK_ : List UInt8 → Option (List UInt8 × List UInt8)
 | [] => none
 | b :: l => if b = 1 then (if l.length < 8 then none else if 2000000000000000000 < b9_ 0 (l.take 8) then none else some (gB_ ((b9_ 0 (l.take 8) : Int) - 1000000000000000000), l.drop 8))
  else if b = 2 then cc_ l [] else none
def di_ : List UInt8 → Option (List UInt8 × List UInt8)
 | [] => none
 | b :: l => if b = 1 ∧ 8 ≤ l.length then (if 1 ≤ b9_ 0 (l.take 8) ∧ b9_ 0 (l.take 8) ≤ 1999999999999999999 then some (bK_ ((b9_ 0 (l.take 8) : Int) - 1000000000000000000), l.drop 8) else none)
  else if b = 2 then cc_ l [] else none
theorem dU_ (n : Nat) : (be8 n).length = 8 := rfl
theorem pu_ (n : Nat) (r : List UInt8) : (be8 n ++ r).take 8 = be8 n := List.take_left' (dU_ n)
theorem ow_ (n : Nat) (r : List UInt8) : (be8 n ++ r).drop 8 = r := List.drop_left' (dU_ n)
theorem ky_ (x r : List UInt8) : dK_ (cf_ x ++ r) = some (x, r) := by
 unfold cf_
 by_cases h : bJ_ x = true
 ·have hk := hZ_ x
  have hq := h6_ x
  rw [if_pos h, List.cons_append, dK_, if_pos rfl, if_neg (by simp [dU_]), pu_, ow_, or_ _ (by omega), if_neg (by omega)]
  have e : ((c4_ x : Nat) : Int) - 1000000000000000000 = bH_ x := by omega
  have hn := ex_ x
  rw [e, gB_, if_pos hn, of_decide_eq_true (by exact h : decide (bK_ (bH_ x) = x) = true)]
 ·rw [if_neg h, List.cons_append, dK_, if_neg (by decide), if_pos rfl, List.append_assoc]
  exact j7_ x r []
theorem nH_ (x r : List UInt8) : di_ (cf_ x ++ r) = some (x, r) := by
 unfold cf_
 by_cases h : bJ_ x = true
 ·have hk := hZ_ x
  have hq := h6_ x
  rw [if_pos h, List.cons_append, di_, if_pos ⟨rfl, by simp [dU_]⟩, pu_, ow_, or_ _ (by omega), if_pos (by omega)]
  have e : ((c4_ x : Nat) : Int) - 1000000000000000000 = bH_ x := by omega
  rw [e, of_decide_eq_true (by exact h : decide (bK_ (bH_ x) = x) = true)]
 ·rw [if_neg h, List.cons_append, di_, if_neg (by rintro ⟨q, _⟩; exact absurd q (by decide)), if_pos rfl, List.append_assoc]
  exact j7_ x r []
theorem np_ (l t r : List UInt8) (h : dK_ l = some (t, r)) : t.length ≤ l.length + 20 ∧ r.length < l.length := by
 cases l with
 | nil => cases h
 | cons b l =>
  rw [dK_] at h
  split at h
  ·split at h
   ·cases h
   ·split at h
    ·cases h
    ·simp only [Option.some.injEq, Prod.mk.injEq] at h
     obtain ⟨rfl, rfl⟩ := h
     refine ⟨?_, by simp only [List.length_drop, lc_]; omega⟩
     unfold gB_
     split
     ·rename_i q; have := gJ_ q.1 q.2; simp only [lc_]; omega
     ·simp
  ·split at h
   ·have := ic_ l [] t r h
    simp only [ln_, lc_] at this ⊢; omega
   ·cases h
theorem s1_ (l t r : List UInt8) (h : di_ l = some (t, r)) : t.length ≤ l.length + 20 ∧ r.length < l.length := by
 cases l with
 | nil => cases h
 | cons b l =>
  rw [di_] at h
  split at h
  ·split at h
   ·rename_i q
    simp only [Option.some.injEq, Prod.mk.injEq] at h
    obtain ⟨rfl, rfl⟩ := h
    refine ⟨?_, by simp only [List.length_drop, lc_]; omega⟩
    have := gJ_ (n := (b9_ 0 (l.take 8) : Int) - 1000000000000000000) (by omega) (by omega)
    simp only [lc_]; omega
   ·cases h
  ·split at h
   ·have := ic_ l [] t r h
    simp only [ln_, lc_] at this ⊢; omega
   ·cases h
def z2_ (x : List UInt8) : Bool := decide (1 ≤ x.length) && decide (x.length ≤ 24)
def ez_ (xs : List (List UInt8)) : Bool := decide (xs.length ≤ 4) && xs.all z2_
def cG_ (take : List UInt8 → Option (List UInt8 × List UInt8)) : Nat → List UInt8 → List (List UInt8) → Option (List (List UInt8) × List UInt8)
 | 0, left, out => some (out, left)
 | f + 1, left, out => if left = [] then some (out, left) else match take left with
  | none => none
  | some (t, r) => cG_ take f r (out ++ [t])
def fU_ (take : List UInt8 → Option (List UInt8 × List UInt8)) (s : List UInt8) : Option (List (List UInt8)) :=
 match cG_ take 5 s [] with
 | none => none
 | some (out, left) => if left = [] ∧ ez_ out = true ∧ cE_ out = s then some out else none
theorem oH_ {take : List UInt8 → Option (List UInt8 × List UInt8)} (hA : ∀ x r, take (cf_ x ++ r) = some (x, r)) : ∀ (xs : List (List UInt8)) (f : Nat) (out : List (List UInt8)), xs.length ≤ f → cG_ take f (cE_ xs) out = some (out ++ xs, [])
 | [], 0, out, _ => by rw [cG_, o5_, List.append_nil]
 | [], f + 1, out, _ => by rw [cG_, o5_, if_pos rfl, List.append_nil]
 | x :: xs, 0, out, h => by simp at h
 | x :: xs, f + 1, out, h => by
  rw [cG_, nP_, if_neg (by simp [sP_]), hA]
  simp only
  rw [oH_ hA xs f _ (by simpa using h), List.append_assoc]; rfl
theorem hz_ {take : List UInt8 → Option (List UInt8 × List UInt8)} (hA : ∀ x r, take (cf_ x ++ r) = some (x, r)) (s : List UInt8) (xs : List (List UInt8)) : fU_ take s = some xs ↔ ez_ xs = true ∧ cE_ xs = s := by
 constructor
 ·intro h
  unfold fU_ at h
  split at h
  ·cases h
  ·rename_i out left _
   split at h
   ·rename_i q
    simp only [Option.some.injEq] at h
    subst h
    exact q.2
   ·cases h
 ·rintro ⟨h1, h2⟩
  have hl : xs.length ≤ 4 := by simp only [ez_, Bool.and_eq_true, decide_eq_true_eq] at h1; exact h1.1
  have := oH_ hA xs 5 [] (by omega)
  rw [h2, List.nil_append] at this
  unfold fU_
  rw [this]
  simp only
  rw [if_pos ⟨trivial, h1, h2⟩]
theorem kE_ (s : List UInt8) : fU_ dK_ s = fU_ di_ s := by
 cases h : fU_ di_ s with
 | some xs => exact (hz_ ky_ s xs).2 ((hz_ nH_ s xs).1 h)
 | none =>
  cases h2 : fU_ dK_ s with
  | none => rfl
  | some xs =>
   have := (hz_ nH_ s xs).2 ((hz_ ky_ s xs).1 h2)
   rw [h] at this; cases this
end Go.AW
