/-
 Plain numbers of texts: the number that a text begins with, the one text of a number, and the ways in which both programs reckon them. Nothing of any program.
-/
import Derived.Test.YtfplhbjggecnpaaGreatDoorShelf
import Derived.Test.YtfplhbjggecnpaaGreatDoorAwC
import Derived.Lib.ItoaNum
import GoSem.Op.String
namespace Go.AW
open List
open Go.Lib (decDigits nDigits itoa)
def dk_ (b : UInt8) : Bool := b == 43 || b == 45
def bA_ (b : UInt8) : Bool := decide (48 ≤ b.toNat) && decide (b.toNat ≤ 57)
def dgt (b : UInt8) : Nat := b.toNat - 48
def dn_ (acc : Nat) (l : List UInt8) : Nat := l.foldl (fun a b => 10 * a + dgt b) acc
theorem e7_ (acc : Nat) : dn_ acc [] = acc := by unfold dn_; rw [foldl_nil]
theorem e4_ (acc : Nat) (b : UInt8) (l : List UInt8) : dn_ acc (b :: l) = dn_ (10 * acc + dgt b) l := by unfold dn_; rw [foldl_cons]
theorem jR_ (b : UInt8) (l : List UInt8) : dn_ 0 (b :: l) = dn_ (dgt b) l := by rw [e4_, Nat.mul_zero, Nat.zero_add]
theorem qv_ (acc : Nat) (a b : List UInt8) : dn_ acc (a ++ b) = dn_ (dn_ acc a) b := by
 induction a generalizing acc with
 | nil => rw [nil_append, e7_]
 | cons x a ih => rw [cons_append, e4_, e4_, ih]
theorem j2_ (acc : Nat) (l : List UInt8) : dn_ acc l = acc * 10 ^ l.length + dn_ 0 l := by
 induction l generalizing acc with
 | nil => rw [ln_, Nat.pow_zero, Nat.mul_one, e7_, e7_]; rfl
 | cons b l ih =>
  rw [e4_, jR_, ih (10 * acc + dgt b), ih (dgt b), lc_, Nat.pow_succ, Nat.add_mul, Nat.mul_comm 10 acc, Nat.mul_assoc, Nat.mul_comm 10, Nat.add_assoc]
theorem ye_ (acc : Nat) (l : List UInt8) : acc ≤ dn_ acc l := by
 rw [j2_]
 have : 1 ≤ 10 ^ l.length := Nat.one_le_pow _ _ (by decide)
 have := Nat.mul_le_mul_left acc this
 omega
theorem Ck_ {b : UInt8} (h : bA_ b = true) : dgt b ≤ 9 := by
 simp only [bA_, Bool.and_eq_true, decide_eq_true_eq] at h
 unfold dgt; omega
theorem rv_ : ∀ (l : List UInt8), (∀ b ∈ l, dgt b ≤ 9) → dn_ 0 l < 10 ^ l.length
 | [], _ => by rw [ln_, Nat.pow_zero, e7_]; exact Nat.zero_lt_one
 | b :: l, h => by
  have h2 := rv_ l (fun x hx => h x (by simp [hx]))
  have h3 := h b (by simp)
  rw [jR_, j2_, lc_, Nat.pow_succ]
  generalize 10 ^ l.length = p at *
  have : dgt b * p ≤ 9 * p := Nat.mul_le_mul_right _ h3
  omega
def fK_ (n : Nat) : List UInt8 → Nat
 | [] => n
 | c :: cs => if (999999999999999999 - dgt c) / 10 < n then 999999999999999999 else fK_ (10 * n + dgt c) cs
theorem n8_ : ∀ (l : List UInt8) (n : Nat), n ≤ 999999999999999999 → (∀ b ∈ l, dgt b ≤ 9) → fK_ n l = min (dn_ n l) 999999999999999999
 | [], n, h, _ => by rw [e7_]; show n = _; omega
 | c :: cs, n, h, hd => by
  have h3 := hd c (by simp)
  rw [e4_]
  show (if (999999999999999999 - dgt c) / 10 < n then 999999999999999999 else fK_ (10 * n + dgt c) cs) = _
  split
  ·have := ye_ (10 * n + dgt c) cs
   omega
  ·exact n8_ cs _ (by omega) (fun b hb => hd b (by simp [hb]))
def dB_ (n : Nat) : List UInt8 → Nat
 | [] => n
 | b :: bs => if bA_ b then dB_ (min (10 * n + dgt b) 1000000000000) bs else n
theorem mw_ : ∀ (l : List UInt8) (n : Nat), dB_ (min n 1000000000000) l = min (dn_ n (l.takeWhile bA_)) 1000000000000
 | [], n => by rw [takeWhile_nil, e7_]; rfl
 | b :: l, n => by
  simp only [dB_, takeWhile_cons]
  split
  ·have e : min (10 * min n 1000000000000 + dgt b) 1000000000000 = min (10 * n + dgt b) 1000000000000 := by omega
   rw [e, mw_ l, e4_]
  ·rw [e7_]
def eD_ (n unit : Nat) : List UInt8 → Nat
 | [] => n
 | b :: bs => if bA_ b then eD_ (n + dgt b * unit) (unit / 10) bs else n
def i9_ : Nat → Nat
 | 0 => 0
 | j + 1 => 10 ^ j
theorem sz_ (j : Nat) : i9_ (j + 1) / 10 = i9_ j := by
 cases j with
 | zero => rfl
 | succ j => simp only [i9_, Nat.pow_succ]; omega
theorem m5_ (acc n : Nat) : dn_ acc (List.replicate n 48) = acc * 10 ^ n := by
 induction n generalizing acc with
 | zero => rw [replicate_zero, e7_, Nat.pow_zero, Nat.mul_one]
 | succ n ih =>
  have : dgt 48 = 0 := rfl
  rw [replicate_succ, e4_, ih, this, Nat.add_zero, Nat.pow_succ, Nat.mul_comm 10 acc, Nat.mul_assoc, Nat.mul_comm 10]
theorem jK_ : ∀ (l : List UInt8) (n j : Nat), j ≤ 6 → eD_ n (i9_ j) l = n + dn_ 0 ((l.takeWhile bA_ ++ List.replicate 6 48).take j)
 | [], n, j, hj => by
  have : (([] : List UInt8).takeWhile bA_ ++ List.replicate 6 48).take j = List.replicate j 48 := by
   simp only [takeWhile_nil, nil_append, take_replicate]; congr 1; omega
  rw [this, m5_]; simp [eD_]
 | b :: l, n, j, hj => by
  simp only [eD_, takeWhile_cons]
  split
  ·cases j with
   | zero =>
    have e : i9_ 0 = 0 := rfl
    rw [e, Nat.mul_zero, Nat.add_zero, Nat.zero_div]
    have := jK_ l n 0 (by omega)
    rw [e] at this
    rw [this]; simp
   | succ j =>
    rw [sz_, jK_ l _ j (by omega), cons_append, take_succ_cons]
    rw [jR_, j2_ (dgt b), length_take]
    have : min j (l.takeWhile bA_ ++ List.replicate 6 (48 : UInt8)).length = j := by
     simp only [la_, length_replicate]; omega
    rw [this]
    simp only [i9_]
    omega
  ·have : (([] : List UInt8) ++ List.replicate 6 48).take j = List.replicate j 48 := by
    simp only [nil_append, take_replicate]; congr 1; omega
   rw [this, m5_]; simp
def bv_ (l : List UInt8) : List UInt8 := l.dropWhile dk_
def d6_ (l : List UInt8) : Bool := (l.takeWhile dk_).count 45 % 2 == 1
def ns_ (r : List UInt8) : List UInt8 := r.takeWhile bA_
def cO_ (r : List UInt8) : List UInt8 :=
 match r.dropWhile bA_ with
 | 46 :: t => t.takeWhile bA_
 | _ => []
def six (f : List UInt8) : List UInt8 := (f ++ List.replicate 6 48).take 6
def fB_ (l : List UInt8) : Nat := min (dn_ 0 (ns_ (bv_ l)) * 1000000 + dn_ 0 (six (cO_ (bv_ l)))) 999999999999999999
def bX_ (l : List UInt8) : Int := if d6_ l then -(fB_ l : Int) else fB_ l
theorem kO_ (l : List UInt8) : fB_ l ≤ 999999999999999999 := Nat.min_le_right _ _
theorem eF_ (l : List UInt8) : -999999999999999999 ≤ bX_ l ∧ bX_ l ≤ 999999999999999999 := by
 have := kO_ l
 unfold bX_
 split <;> omega
theorem kb_ (l : List UInt8) : ∀ b ∈ l.takeWhile bA_, dgt b ≤ 9 := fun b hb => Ck_ (by
 induction l with
 | nil => simp at hb
 | cons x l ih =>
  rw [takeWhile_cons] at hb
  split at hb
  ·rcases mem_cons.1 hb with e | e
   ·subst e; assumption
   ·exact ih e
  ·simp at hb)
theorem mu_ (r : List UInt8) : ∀ b ∈ cO_ r, dgt b ≤ 9 := by
 unfold cO_
 split
 ·exact kb_ _
 ·simp
theorem ri_ {f : List UInt8} (h : ∀ b ∈ f, dgt b ≤ 9) : ∀ b ∈ six f, dgt b ≤ 9 := by
 intro b hb
 have := mem_of_mem_take hb
 rcases mem_append.1 this with q | q
 ·exact h b q
 ·rw [eq_of_mem_replicate q]; decide
theorem jT_ (f : List UInt8) : (six f).length = 6 := by simp [six]
theorem v0_ (l : List UInt8) : fK_ 0 (ns_ (bv_ l) ++ six (cO_ (bv_ l))) = fB_ l := by
 rw [n8_ _ _ (by omega), qv_, j2_ (dn_ 0 _), jT_]
 ·rfl
 ·intro b hb
  rcases mem_append.1 hb with q | q
  ·exact kb_ _ b q
  ·exact ri_ (mu_ _) b q
theorem uI_ (l : List UInt8) : min (min (dB_ 0 (bv_ l) * 1000000) 1000000000000000000 + dn_ 0 (six (cO_ (bv_ l)))) 999999999999999999 = fB_ l := by
 have h1 := mw_ (bv_ l) 0
 rw [Nat.zero_min] at h1
 have h2 := rv_ _ (ri_ (mu_ (bv_ l)))
 rw [jT_] at h2
 unfold fB_ ns_
 rw [h1]
 omega
def ce_ (u : Nat) : List UInt8 := if u = 0 then [] else decDigits u
def fx_ (l : List UInt8) : List UInt8 := (l.reverse.dropWhile fun b => b == 48).reverse
def jN_ (r : Nat) : List UInt8 := if r = 0 then [] else 46 :: fx_ ((decDigits (1000000 + r)).drop 1)
def dc_ (u : Nat) : List UInt8 := if u = 0 then [48] else ce_ (u / 1000000) ++ jN_ (u % 1000000)
def b3_ (n : Int) : List UInt8 := if n < 0 then 45 :: dc_ n.natAbs else dc_ n.natAbs
theorem k3_ (u : Nat) : decDigits u ≠ [] := by
 rw [decDigits]; split <;> simp
theorem hC_ : ∀ (k u : Nat), u < 10 ^ (k + 1) → nDigits u ≤ k + 1
 | 0, u, h => by rw [Go.Lib.nDigits_small (by simpa using h)]; omega
 | k + 1, u, h => by
  by_cases h1 : u < 10
  ·rw [Go.Lib.nDigits_small h1]; omega
  ·rw [Go.Lib.nDigits_big h1]
   have := hC_ k (u / 10) (by rw [Nat.pow_succ] at h; omega)
   omega
theorem e9_ (l : List UInt8) : (fx_ l).length ≤ l.length := by
 unfold fx_
 rw [length_reverse]
 have := (dropWhile_sublist (l := l.reverse) (fun b => b == 48)).length_le
 rw [length_reverse] at this
 exact this
theorem pQ_ {r : Nat} (h : r < 1000000) : (jN_ r).length ≤ 7 := by
 unfold jN_
 split
 ·simp
 ·have h1 := e9_ ((decDigits (1000000 + r)).drop 1)
  rw [length_drop, Go.Lib.decDigits_length, Go.Lib.nDigits_unique 6 (1000000 + r) (by omega) (by omega)] at h1
  rw [lc_]; omega
theorem i4_ {u : Nat} (h : u ≤ 999999999999999999) : (dc_ u).length ≤ 19 := by
 unfold dc_
 split
 ·simp
 ·rw [la_]
  have h1 := pQ_ (r := u % 1000000) (by omega)
  have h2 : (ce_ (u / 1000000)).length ≤ 12 := by
   unfold ce_
   split
   ·simp
   ·rw [Go.Lib.decDigits_length]; exact hC_ 11 _ (by omega)
  omega
theorem gL_ {n : Int} (h1 : -999999999999999999 ≤ n) (h2 : n ≤ 999999999999999999) : (b3_ n).length ≤ 20 := by
 have := i4_ (u := n.natAbs) (by omega)
 unfold b3_
 split
 ·rw [lc_]; omega
 ·omega
theorem sW_ (u : Nat) : dc_ u ≠ [] := by
 unfold dc_
 split
 ·simp
 ·intro h
  have h1 := (append_eq_nil_iff.1 h).1
  have h2 := (append_eq_nil_iff.1 h).2
  have e1 : u / 1000000 = 0 := by
   unfold ce_ at h1
   split at h1
   ·assumption
   ·exact absurd h1 (k3_ _)
  have e2 : u % 1000000 = 0 := by
   unfold jN_ at h2
   split at h2
   ·assumption
   ·simp at h2
  omega
theorem sa_ (n : Int) : b3_ n ≠ [] := by
 unfold b3_
 split
 ·simp
 ·exact sW_ _
def b4_ (l : List UInt8) : Bool := decide (b3_ (bX_ l) = l)
theorem st_ (l : List UInt8) : (decide (l ≠ []) && decide (l.length ≤ 21) && decide (b3_ (bX_ l) = l)) = b4_ l := by
 unfold b4_
 by_cases h : b3_ (bX_ l) = l
 ·have h1 := sa_ (bX_ l)
  have h2 := gL_ (eF_ l).1 (eF_ l).2
  rw [h] at h1 h2
  have h3 : l.length ≤ 21 := by omega
  simp [h, h1, h3]
 ·simp [h]
theorem ti_ {a b : List UInt8} (ha : b4_ a = true) (hb : b4_ b = true) (h : bX_ a = bX_ b) : a = b := by
 rw [← of_decide_eq_true ha, ← of_decide_eq_true hb, h]
theorem t0_ {r : Nat} (h0 : r ≠ 0) (h : r < 1000000) : ∃ b ∈ (decDigits (1000000 + r)).drop 1, b ≠ 48 := by
 have hn : nDigits (1000000 + r) = 7 := Go.Lib.nDigits_unique 6 (1000000 + r) (by omega) (by omega)
 have hd : (decDigits (1000000 + r)).drop 1 = [Go.Lib.dg (1000000 + r) 5, Go.Lib.dg (1000000 + r) 4, Go.Lib.dg (1000000 + r) 3, Go.Lib.dg (1000000 + r) 2, Go.Lib.dg (1000000 + r) 1, Go.Lib.dg (1000000 + r) 0] := by
  rw [Go.Lib.decDigits_eq, hn]; rfl
 have key : ∀ j, Go.Lib.dg (1000000 + r) j = 48 → (1000000 + r) / 10 ^ j % 10 = 0 := by
  intro j hj
  have := congrArg UInt8.toNat hj
  simp only [Go.Lib.dg] at this
  rw [UInt8.toNat_ofNat'] at this
  have h2 : (48 : UInt8).toNat = 48 := rfl
  rw [h2] at this
  omega
 rw [hd]
 apply Classical.byContradiction
 intro hc
 have hall : ∀ b ∈ [Go.Lib.dg (1000000 + r) 5, Go.Lib.dg (1000000 + r) 4, Go.Lib.dg (1000000 + r) 3, Go.Lib.dg (1000000 + r) 2, Go.Lib.dg (1000000 + r) 1, Go.Lib.dg (1000000 + r) 0], b = 48 := by
  intro b hb
  apply Classical.byContradiction
  intro hn
  exact hc ⟨b, hb, hn⟩
 have k5 := key 5 (hall _ (by simp))
 have k4 := key 4 (hall _ (by simp))
 have k3 := key 3 (hall _ (by simp))
 have k2 := key 2 (hall _ (by simp))
 have k1 := key 1 (hall _ (by simp))
 have k0 := key 0 (hall _ (by simp))
 simp only [Nat.reducePow] at k5 k4 k3 k2 k1 k0
 omega
end Go.AW
namespace Go.Proofs.YtfplhbjggecnpaaGreatDoor
open List
open Go.AW
set_option linter.unusedVariables false
set_option linter.unusedSimpArgs false
set_option maxRecDepth 4000
theorem gI_ (l cs : List UInt8) (hcs : cs.length < 4294967281) (ha : ∀ b ∈ cs, b.toNat < 128) (h : List Row) :
 aa_ Tryz.prog 226 [.val (.string (txt l)), .val (.string (txt cs))] h (.val (.string (txt (l.dropWhile (cs.contains ·))))) := by
 refine hH_ (vals := [.string (txt l), .string (txt cs)]) (fun w _ => ?_) h
 have := Any.strings_TrimLeft_laid Tryz.lays161 (by kernel_rfl) (txt l) (txt cs) w (by rw [b9_]; exact hcs) (by rw [ca_]; intro j b hb; exact ha b (mem_of_getElem? hb))
 rw [ca_, ca_] at this
 exact this
theorem dt_ (l cs : List UInt8) (hl : l.length ≤ 9223372036854775807) (hcs : cs.length < 4294967281) (ha : ∀ b ∈ cs, b.toNat < 128) (h : List Row) :
 aa_ Tryz.prog 237 [.val (.string (txt l)), .val (.string (txt cs))] h (.val (.string (txt ((l.reverse.dropWhile (cs.contains ·)).reverse)))) := by
 refine hH_ (vals := [.string (txt l), .string (txt cs)]) (fun w _ => ?_) h
 have := Any.strings_TrimRight_laid Tryz.lays162 (by kernel_rfl) (txt l) (txt cs) w (by rw [b9_]; exact hl) (by rw [b9_]; exact hcs) (by rw [ca_]; intro j b hb; exact ha b (mem_of_getElem? hb))
 rw [ca_, ca_] at this
 exact this
theorem md_ (l : List UInt8) (c : UInt8) (h : List Row) :
 aa_ Tryz.prog 227 [.val (.string (txt l)), .val (.string (txt [c]))] h (.val (.int .i64 (l.count c))) := by
 refine hH_ (vals := [.string (txt l), .string (txt [c])]) (fun w _ => ?_) h
 have := Any.strings_Count_one Tryz.lays138 (txt l) c w
 rw [ca_] at this
 refine this.mono ?_
 rintro e w' ⟨rfl, rfl⟩
 exact ⟨rfl, Go.RowKit.Below.refl _ _⟩
theorem p4_ (w : World) (q : Nat) (os : Array Obj) : RowKit.Below w.heap.size w (Go.Sort.grow (w.drewN q) os) :=
 ⟨rfl, rfl, rfl, by first | (simp [Go.Sort.grow]; done) | (simp [Go.Sort.grow]; omega), fun i hi => by
  show ((w.drewN q).heap ++ os)[i]? = _
  rw [Array.getElem?_append_left (by show i < w.heap.size; omega)]
  rfl⟩
theorem bW_ (n : Int) (h0 : -9223372036854775808 ≤ n) (h1 : n ≤ 9223372036854775807) (h : List Row) :
 aa_ Tryz.prog 236 [.val (.int .i64 n), .val (.int .i64 10)] h (.val (.string (txt (Lib.itoa n)))) := by
 refine hH_ (vals := [.int .i64 n, .int .i64 10]) (fun w ht => ?_) h
 have := Any.strconv_FormatInt_10 Tryz.laysM173 n h0 h1 w (ht ("internal/strconv.uint64pow10", (Lib.pow10Tab.map fun z => Value.int .u64 z).toArray) (by simp [p2_]) (by kernel_rfl))
 refine this.mono ?_
 rintro e w' ⟨rfl, k, os, rfl⟩
 exact ⟨rfl, p4_ _ _ _⟩
theorem jB_ (l p : List UInt8) (h : List Row) :
 aa_ Tryz.prog 229 [.val (.string (txt l)), .val (.string (txt p))] h (.tup [.val (.string (txt (Lib.trimPrefix l p))), .val (.bool (Lib.hasPrefix l p))]) := by
 refine ta_ (vals := [.string (txt l), .string (txt p)]) (us := [.string (txt (Lib.trimPrefix l p)), .bool (Lib.hasPrefix l p)]) (fun w _ => ?_) h
 have := Any.strings_CutPrefix Tryz.lays103 (txt l) (txt p) w
 rw [ca_, ca_] at this
 refine this.mono ?_
 rintro e w' ⟨rfl, rfl⟩
 exact ⟨rfl, Go.RowKit.Below.refl _ _⟩
theorem ph_ (b : UInt8) : ([48, 49, 50, 51, 52, 53, 54, 55, 56, 57] : List UInt8).contains b = bA_ b := by
 have hb := b.toNat_lt
 rw [Bool.eq_iff_iff]
 simp only [contains_eq_mem, mem_cons, not_mem_nil, or_false, decide_eq_true_eq, bA_, Bool.and_eq_true, ← UInt8.toNat_inj]
 show (b.toNat = 48 ∨ b.toNat = 49 ∨ b.toNat = 50 ∨ b.toNat = 51 ∨ b.toNat = 52 ∨ b.toNat = 53 ∨ b.toNat = 54 ∨ b.toNat = 55 ∨ b.toNat = 56 ∨ b.toNat = 57) ↔ _
 omega
theorem qb_ (b : UInt8) : ([43, 45] : List UInt8).contains b = dk_ b := by
 rw [Bool.eq_iff_iff]
 simp [dk_]
theorem db_ {α : Type} {p q : α → Bool} (h : ∀ x, p x = q x) (l : List α) : l.dropWhile p = l.dropWhile q := by
 have : p = q := funext h
 rw [this]
theorem fP_ {α : Type} (p : α → Bool) (l : List α) : (l.takeWhile p).length + (l.dropWhile p).length = l.length := by
 rw [← List.length_append, takeWhile_append_dropWhile]
theorem gO_ {α : Type} (p : α → Bool) (l : List α) : l.take (l.takeWhile p).length = l.takeWhile p := by
 have h := takeWhile_append_dropWhile (p := p) (l := l)
 have h2 : (l.takeWhile p ++ l.dropWhile p).take (l.takeWhile p).length = l.takeWhile p := take_left' rfl
 rw [h] at h2; exact h2
theorem nI_ {α : Type} (p : α → Bool) (l : List α) : l.drop (l.takeWhile p).length = l.dropWhile p := by
 have h := takeWhile_append_dropWhile (p := p) (l := l)
 have h2 : (l.takeWhile p ++ l.dropWhile p).drop (l.takeWhile p).length = l.dropWhile p := drop_left' rfl
 rw [h] at h2; exact h2
def zc_ : LC :=
 .seq (.ops [.ki 2 0]) (.seq (.ops [.m 3 0, .s 4 (.lenStr (.tmp 3)), .m 5 0, .s 6 (.call 226 [.tmp 5, .const (.string ⟨#[48, 49, 50, 51, 52, 53, 54, 55, 56, 57]⟩)]), .s 7 (.lenStr (.tmp 6)), .bb 8 .sub false 4 7, .m 2 8])
 .ret)
def wF_ : LF := ⟨1, 9, zc_, [.tmp 2]⟩
theorem zv_ : at_ Tryz.prog Tryz.f228 wF_ := ai_
theorem hT_ (l : List UInt8) (hl : l.length ≤ 2000000) (h : List Row) : aa_ Tryz.prog 228 [.val (.string (txt l))] h (.val (.int .i64 (l.takeWhile bA_).length)) := by
 refine aj_ mixed Tryz.func228 zv_ rfl rfl ?_ h
 have hw := fP_ bA_ l
 simp (disch := omega) only [wF_, zc_, go_sem, reduceCtorEq, ↓reduceIte]
 refine aa_.call (gI_ l _ (by decide) (by decide) _) ?_
 rw [db_ ph_]
 simp (disch := omega) only [go_sem, Nat.reduceEqDiff, ↓reduceIte]
 exact aG_ (by omega)
def do_ (x lo hi : Int) : Bool := decide (lo ≤ x) && decide (x ≤ hi)
def AH_ : LC :=
 .seq (.ops [.s 6 (.mov (.const (.bool false)))]) (.seq (.ops [.m 7 1, .m 8 0, .bb 9 .leq false 7 8, .m 10 9, .g 11 10 true (.mov (.tmp 0)), .g 12 10 true (.mov (.tmp 2)), .g 13 10 true (.bin .leq false (.tmp 11) (.tmp
 12)), .pf 14 10 13, .m 6 14]) .ret)
def wr_ : LF := ⟨3, 15, AH_, [.tmp 6]⟩
theorem Ax_ : at_ Tryz.prog Tryz.f116 wr_ := ai_
theorem fk_ (x lo hi : Int)  (h : List Row) : aa_ Tryz.prog 116 [.val (.int .i64 x), .val (.int .i64 lo), .val (.int .i64 hi)] h (.val (.bool (do_ x lo hi))) := by
 refine aj_ mixed Tryz.func116 Ax_ rfl rfl ?_ h
 simp (disch := omega) only [wr_, AH_, go_sem, Nat.reduceEqDiff, reduceCtorEq, ↓reduceIte]
 repeat' (first
  | exact af_ _ _
  | (refine ae_ ?_; first | rfl | (simp only [do_, *, Bool.true_and, Bool.false_and, decide_true, decide_false]; done) | (simp [do_, *]; done))
  | simp (disch := omega) only [go_sem, Nat.reduceEqDiff, reduceCtorEq, ↓reduceIte]
  | ((first | (apply aS_; assumption) | (apply aT_; assumption) | (apply a8_; assumption) | (apply a9_; assumption)); intro hb; try simp only [hb])
  | ((first | (apply aF_; assumption) | (apply aE_; assumption) | (apply aN_; assumption) | (apply aO_; assumption)); intro hb; try simp only [hb])
  | ((first | apply az_ | apply aC_ | apply ak_ | apply an_) <;> intro hb <;> (try simp only [hb]) <;> (first | have hp := aV_ hb | have hp := aU_ hb | have hp := aW_ hb | have hp := aX_ hb | skip)))
def BX_ : LC :=
 .seq (.ops [.s 6 (.mov (.const (.bool false)))]) (.seq (.ops [.m 7 0, .m 8 1, .bb 9 .geq false 7 8, .m 10 9, .g 11 10 true (.mov (.tmp 0)), .g 12 10 true (.mov (.tmp 2)), .g 13 10 true (.bin .leq false (.tmp 11) (.tmp
 12)), .pf 14 10 13, .m 6 14]) .ret)
def x0_ : LF := ⟨3, 15, BX_, [.tmp 6]⟩
theorem Ak_ : at_ Tryz.prog Tryz.f113 x0_ := ai_
theorem ho_ (x lo hi : Int)  (h : List Row) : aa_ Tryz.prog 113 [.val (.int .i64 x), .val (.int .i64 lo), .val (.int .i64 hi)] h (.val (.bool (do_ x lo hi))) := by
 refine aj_ mixed Tryz.func113 Ak_ rfl rfl ?_ h
 simp (disch := omega) only [x0_, BX_, go_sem, Nat.reduceEqDiff, reduceCtorEq, ↓reduceIte]
 repeat' (first
  | exact af_ _ _
  | (refine ae_ ?_; first | rfl | (simp only [do_, *, Bool.true_and, Bool.false_and, decide_true, decide_false]; done) | (simp [do_, *]; done))
  | simp (disch := omega) only [go_sem, Nat.reduceEqDiff, reduceCtorEq, ↓reduceIte]
  | ((first | (apply aS_; assumption) | (apply aT_; assumption) | (apply a8_; assumption) | (apply a9_; assumption)); intro hb; try simp only [hb])
  | ((first | (apply aF_; assumption) | (apply aE_; assumption) | (apply aN_; assumption) | (apply aO_; assumption)); intro hb; try simp only [hb])
  | ((first | apply az_ | apply aC_ | apply ak_ | apply an_) <;> intro hb <;> (try simp only [hb]) <;> (first | have hp := aV_ hb | have hp := aU_ hb | have hp := aW_ hb | have hp := aX_ hb | skip)))
def CA_ : LC :=
 .seq (.ops [.s 2 (.mov (.const (.bool false)))]) (.seq (.ops [.m 3 0, .s 4 (.call 116 [.tmp 3, .const (.int .i64 (-999999999999999999)), .const (.int .i64 999999999999999999)]), .m 2 4]) .ret)
def xs_ : LF := ⟨1, 5, CA_, [.tmp 2]⟩
theorem zw_ : at_ Tryz.prog Tryz.f235 xs_ := ai_
theorem oH_ (x : Int)  (h : List Row) : aa_ Tryz.prog 235 [.val (.int .i64 x)] h (.val (.bool (do_ x (-999999999999999999) 999999999999999999))) := by
 refine aj_ mixed Tryz.func235 zw_ rfl rfl ?_ h
 simp (disch := omega) only [xs_, CA_, go_sem, reduceCtorEq, Int.reduceNeg, ↓reduceIte]
 repeat' (first
  | exact af_ _ _
  | simp (disch := omega) only [go_sem, Int.reduceNeg, ↓reduceIte]
  | (refine aa_.call (fk_ _ _ _ _) ?_)
  | (refine aa_.q (fk_ _ _ _ _) ?_)
  | ((first | (apply aS_; assumption) | (apply aT_; assumption) | (apply a8_; assumption) | (apply a9_; assumption)); intro hb; try simp only [hb])
  | ((first | (apply aF_; assumption) | (apply aE_; assumption) | (apply aN_; assumption) | (apply aO_; assumption)); intro hb; try simp only [hb])
  | ((first | apply az_ | apply aC_ | apply ak_ | apply an_) <;> intro hb <;> (try simp only [hb]) <;> (first | have hp := aV_ hb | have hp := aU_ hb | have hp := aW_ hb | have hp := aX_ hb | skip)))
def vu_ : LC :=
 .seq (.ops [.s 2 (.mov (.const (.bool false)))]) (.seq (.ops [.m 3 0, .s 4 (.bin .geq false (.tmp 3) (.const (.int .u8 48))), .m 5 4, .g 6 5 true (.mov (.tmp 0)), .g 7 5 true (.bin .leq false (.tmp 6) (.const (.int .u8
 57))), .pf 8 5 7, .m 2 8]) .ret)
def rC_ : LF := ⟨1, 9, vu_, [.tmp 2]⟩
theorem tC_ : at_ Tryz.prog Tryz.f220 rC_ := ai_
theorem h2_ (b : UInt8)  (h : List Row) : aa_ Tryz.prog 220 [.val (.int .u8 b.toNat)] h (.val (.bool (bA_ b))) := by
 refine aj_ mixed Tryz.func220 tC_ rfl rfl ?_ h
 simp (disch := omega) only [rC_, vu_, go_sem, reduceCtorEq, ↓reduceIte]
 repeat' (first
  | exact af_ _ _
  | (refine ae_ ?_; rw [Bool.eq_iff_iff]; simp_all [bA_]; omega)
  | simp (disch := omega) only [go_sem, Nat.reduceEqDiff, reduceCtorEq, ↓reduceIte]
  | ((first | (apply aS_; assumption) | (apply aT_; assumption) | (apply a8_; assumption) | (apply a9_; assumption)); intro hb; try simp only [hb])
  | ((first | (apply aF_; assumption) | (apply aE_; assumption) | (apply aN_; assumption) | (apply aO_; assumption)); intro hb; try simp only [hb])
  | ((first | apply az_ | apply aC_ | apply ak_ | apply an_) <;> intro hb <;> (try simp only [hb]) <;> (first | have hp := aV_ hb | have hp := aU_ hb | have hp := aW_ hb | have hp := aX_ hb | skip)))
def Bc_ : LC :=
 .seq (.ops [.ki 4 0]) (.seq (.seq (.ops [.m 5 0, .m 6 1, .bb 7 .lss false 5 6]) (.cond (.tmp 7) (.seq (.ops [.m 8 0, .m 4 8]) .ret) .skip)) (.seq (.ops [.m 9 1, .m 4 9]) .ret))
def wP_ : LF := ⟨2, 10, Bc_, [.tmp 4]⟩
theorem y7_ : at_ Tryz.prog Tryz.f234 wP_ := ai_
theorem eB_ (a b : Int)  (h : List Row) : aa_ Tryz.prog 234 [.val (.int .i64 a), .val (.int .i64 b)] h (.val (.int .i64 (min a b))) := by
 refine aj_ mixed Tryz.func234 y7_ rfl rfl ?_ h
 simp (disch := omega) only [wP_, Bc_, go_sem, Nat.reduceEqDiff, reduceCtorEq, ↓reduceIte]
 repeat' (first
  | exact af_ _ _
  | (refine aG_ ?_; have := of_decide_eq_true ‹_›; omega)
  | (refine aG_ ?_; have := of_decide_eq_false ‹_›; omega)
  | simp (disch := omega) only [go_sem, Nat.reduceEqDiff, reduceCtorEq, ↓reduceIte]
  | ((first | (apply aF_; assumption) | (apply aE_; assumption) | (apply aN_; assumption) | (apply aO_; assumption)); intro hb; try simp only [hb])
  | ((first | apply ak_ | apply an_) <;> intro hb <;> (try simp only [hb]) <;> (first | have hp := aV_ hb | have hp := aU_ hb | have hp := aW_ hb | have hp := aX_ hb | skip)))
theorem k5_ {b : UInt8} (h : bA_ b = true) : 48 ≤ b.toNat ∧ b.toNat ≤ 57 := by simpa [bA_] using h
def Ba_ : LC :=
 .seq (.ops [.ki 4 0]) (.seq (.seq (.ops [.m 7 1, .s 8 (.toBytes (.tmp 7)), .ll 9 8, .ki 10 0]) (.block 0 (.loop (.seq (.ops [.bb 11 .lss false 10 9]) (.seq (.cond (.tmp 11) .skip (.exit 0)) (.seq (.block 1 (.seq (.ops
 [.ia 12 1 8 10, .ln 13 12, .m 6 13]) (.seq (.seq (.ops [.m 14 0, .m 15 6, .s 16 (.bin .sub false (.tmp 15) (.const (.int .u8 48))), .s 17 (.convInt .i64 (.tmp 16)), .s 18 (.bin .sub false (.const (.int .i64
 999999999999999999)) (.tmp 17)), .bk 19 .quo false 18 10, .bb 20 .gtr false 14 19]) (.cond (.tmp 20) (.seq (.ops [.ki 4 999999999999999999]) .ret) .skip)) (.ops [.m 21 0, .s 22 (.bin .mul false (.const (.int .i64 10))
 (.tmp 21)), .m 23 6, .s 24 (.bin .sub false (.tmp 23) (.const (.int .u8 48))), .s 25 (.convInt .i64 (.tmp 24)), .bb 26 .add false 22 25, .m 0 26])))) (.ops [.bk 27 .add false 10 1, .m 10 27]))))))) (.seq (.ops [.m 28 0,
 .m 4 28]) .ret))
def xT_ : LF := ⟨2, 29, Ba_, [.tmp 4]⟩
theorem CE_ : at_ Tryz.prog Tryz.f230 xT_ := ai_
theorem nl_ (n0 : Nat) (l : List UInt8) (hl : l.length ≤ 2000000) (hn : n0 ≤ 999999999999999999) (hd : ∀ b ∈ l, 48 ≤ b.toNat ∧ b.toNat ≤ 57) (h : List Row) : aa_ Tryz.prog 230 [.val (.int .i64 n0), .val (.string (txt l))] h (.val (.int .i64 (fK_ n0 l))) := by
 refine aj_ mixed Tryz.func230 CE_ rfl rfl ?_ h
 simp (disch := omega) only [xT_, Ba_, go_sem, Nat.reduceEqDiff, ↓reduceIte]
 refine aL_ (fun m t h => ∃ k n : Nat, t 0 = .val (.int .i64 n) ∧ t 8 = .list 0 1 (bq_ l) ∧ t 9 = .val (.int .i64 l.length) ∧ t 10 = .val (.int .i64 k) ∧ m = l.length - k ∧ k ≤ l.length ∧ n ≤ 999999999999999999 ∧ fK_ n0 l = fK_ n (l.drop k)) l.length ?_ ?_
 ·exact ⟨0, n0, rfl, rfl, rfl, rfl, rfl, Nat.zero_le _, hn, rfl⟩
 ·rintro J hJ m t h ⟨k, n, t0, t8, t9, t10, rfl, hk, hn', hS⟩
  by_cases hlt : k < l.length
  ·rw [cF_ l k hlt, fK_] at hS
   have hr := hd l[k] (getElem_mem hlt)
   simp (disch := omega) only [t0, t8, t9, t10, hlt, go_sem, Nat.reduceEqDiff, reduceCtorEq, ↓reduceIte]
   refine an_ (fun hb => ?_) (fun hb => ?_)
   ·have hb' := of_decide_eq_true hb
    rw [if_pos (by unfold dgt; omega)] at hS
    simp (disch := omega) only [go_sem, ↓reduceIte]
    exact aG_ (by rw [hS]; rfl)
   ·have hb' := of_decide_eq_false hb
    rw [if_neg (by unfold dgt; omega)] at hS
    simp (disch := omega) only [t0, t10, go_sem, Nat.reduceEqDiff, reduceCtorEq, ↓reduceIte]
    exact ⟨l.length - (k + 1), by omega, hJ _ _ _ ⟨k + 1, 10 * n + dgt l[k], by simp [upd, dgt]; omega, by simp [upd, t8], by simp [upd, t9], by simp [upd], rfl, by omega, by unfold dgt; omega, hS⟩⟩
  ·rw [drop_eq_nil_of_le (by omega), fK_] at hS
   simp (disch := omega) only [t0, t9, t10, hlt, go_sem, reduceCtorEq, ↓reduceIte]
   exact aG_ (by rw [hS])
theorem xS_ (d : List UInt8) : (∃ t, d = 46 :: t ∧ Lib.hasPrefix d [46] = true ∧ Lib.trimPrefix d [46] = t) ∨ (Lib.hasPrefix d [46] = false ∧ ∀ t, d ≠ 46 :: t) := by
 cases d with
 | nil => right; simp [Lib.hasPrefix]
 | cons b t =>
  by_cases h : b = 46
  ·left; subst h; exact ⟨t, rfl, by simp [Lib.hasPrefix, List.isPrefixOf], by simp [Lib.trimPrefix, Lib.hasPrefix, List.isPrefixOf]⟩
  ·right
   have h' : ¬ (46 = b) := fun e => h e.symm
   refine ⟨by simp [Lib.hasPrefix, List.isPrefixOf, h'], fun t' e => ?_⟩
   simp at e; exact h e.1
theorem hG_ {r : List UInt8} (h : ∀ t, r.dropWhile bA_ ≠ 46 :: t) : cO_ r = [] := by
 unfold cO_
 split
 ·rename_i t e; exact absurd e (h t)
 ·rfl
theorem jS_ {r t : List UInt8} (h : r.dropWhile bA_ = 46 :: t) : cO_ r = t.takeWhile bA_ := by
 unfold cO_; rw [h]; rfl
theorem hA_ (l : List UInt8) : ∀ b ∈ l.takeWhile bA_, 48 ≤ b.toNat ∧ b.toNat ≤ 57 := by
 intro b hb
 have := all_takeWhile (p := bA_) (l := l)
 exact k5_ (all_eq_true.1 this b hb)
theorem qy_ {f : List UInt8} (h : ∀ b ∈ f, 48 ≤ b.toNat ∧ b.toNat ≤ 57) : ∀ b ∈ six f, 48 ≤ b.toNat ∧ b.toNat ≤ 57 := by
 intro b hb
 have hb := mem_of_mem_take hb
 rcases mem_append.1 hb with q | q
 ·exact h b q
 ·have := eq_of_mem_replicate q; subst this; decide
def Db_ : LC :=
 .seq (.ops [.ki 2 0]) (.seq (.ops [.m 10 0, .s 11 (.call 226 [.tmp 10, .const (.string ⟨#[43, 45]⟩)]), .m 3 11]) (.seq (.ops [.m 12 0, .m 13 0, .s 14 (.lenStr (.tmp 13)), .m 15 3, .s 16 (.lenStr (.tmp 15)), .bb 17 .sub
 false 14 16, .s 18 (.sliceStr (.tmp 12) none (some (.tmp 17))), .s 19 (.call 227 [.tmp 18, .const (.string ⟨#[45]⟩)]), .bk 20 .rem false 19 2, .bk 21 .eql false 20 1, .m 4 21]) (.seq (.ops [.m 22 3, .m 23 3, .c1 24 228
 23, .s 25 (.sliceStr (.tmp 22) none (some (.tmp 24))), .m 5 25]) (.seq (.ops [.s 6 (.mov (.const (.string ⟨#[]⟩)))]) (.seq (.seq (.ops [.m 27 3, .m 28 5, .s 29 (.lenStr (.tmp 28)), .s 30 (.sliceStr (.tmp 27) (some (.tmp
 29)) none), .s 31 (.call 229 [.tmp 30, .const (.string ⟨#[46]⟩)]), .m 26 31, .ex 32 26 0, .ex 33 26 1, .m 7 32, .m 8 33]) (.seq (.ops [.m 34 8]) (.cond (.tmp 34) (.ops [.m 35 7, .m 36 7, .c1 37 228 36, .s 38 (.sliceStr
 (.tmp 35) none (some (.tmp 37))), .m 6 38]) .skip))) (.seq (.ops [.m 39 5, .m 40 6, .s 41 (.bin .add false (.tmp 40) (.const (.string ⟨#[48, 48, 48, 48, 48, 48]⟩))), .s 42 (.sliceStr (.tmp 41) none (some (.const (.int
 .i64 6)))), .bb 43 .add false 39 42, .s 44 (.call 230 [.const (.int .i64 0), .tmp 43]), .m 9 44]) (.seq (.seq (.ops [.m 45 4]) (.cond (.tmp 45) (.seq (.ops [.m 46 9, .s 47 (.un .neg (.tmp 46)), .m 2 47]) .ret) .skip))
 (.seq (.ops [.m 48 9, .m 2 48]) .ret))))))))
def wV_ : LF := ⟨1, 49, Db_, [.tmp 2]⟩
theorem zC_ : at_ Tryz.prog Tryz.f205 wV_ := ai_
theorem j8_ (l : List UInt8) (hl : l.length ≤ 1900000) (h : List Row) : aa_ Tryz.prog 205 [.val (.string (txt l))] h (.val (.int .i64 (bX_ l))) := by
 refine aj_ mixed Tryz.func205 zC_ rfl rfl ?_ h
 have hw := fP_ dk_ l
 have hw2 := fP_ bA_ (l.dropWhile dk_)
 have e1 : ((l.length : Int) - ((l.dropWhile dk_).length : Int)) = ((l.takeWhile dk_).length : Int) := by omega
 have hsg : decide (((l.takeWhile dk_).count 45 : Int) % 2 = 1) = d6_ l := by
  unfold d6_; rw [Bool.eq_iff_iff]; simp; omega
 simp (disch := omega) only [wV_, Db_, go_sem, reduceCtorEq, ↓reduceIte]
 refine aa_.call (gI_ l _ (by decide) (by decide) _) ?_
 rw [db_ qb_]
 simp (disch := omega) only [e1, gO_, go_sem, Nat.reduceEqDiff, reduceCtorEq, ↓reduceIte]
 refine aa_.call (md_ _ 45 _) ?_
 simp (disch := omega) only [hsg, go_sem, Nat.reduceEqDiff, ↓reduceIte]
 have hr : (l.dropWhile dk_) = bv_ l := rfl
 rw [hr] at hw2 hw ⊢
 refine aa_.call (hT_ _ (by omega) _) ?_
 simp (disch := omega) only [gO_, nI_, take_length, go_sem, Nat.reduceEqDiff, ↓reduceIte]
 refine aa_.call (jB_ _ _ _) ?_
 have hz := jT_ (cO_ (bv_ l))
 have hq : fK_ 0 ((bv_ l).takeWhile bA_ ++ six (cO_ (bv_ l))) = fB_ l := v0_ l
 have hfin : ∀ h, aa_ Tryz.prog 230 [.val (.int .i64 0), .val (.string (txt ((bv_ l).takeWhile bA_ ++ six (cO_ (bv_ l)))))] h (.val (.int .i64 (fB_ l))) := by
  intro h
  rw [← hq]
  refine nl_ 0 _ (by simp only [la_]; omega) (by decide) ?_ h
  intro b hb
  rcases mem_append.1 hb with q | q
  ·exact hA_ _ b q
  ·exact qy_ (fun b hb => by
    rcases xS_ ((bv_ l).dropWhile bA_) with ⟨t, e, _⟩ | ⟨_, e⟩
    ·rw [jS_ e] at hb; exact hA_ _ b hb
    ·rw [hG_ e] at hb; simp at hb) b q
 have hle := kO_ l
 rcases xS_ ((bv_ l).dropWhile bA_) with ⟨t, e, e2, e3⟩ | ⟨e2, e⟩
 ·have hfr := jS_ e
  have hlt : t.length + 1 ≤ (bv_ l).length := by rw [e] at hw2; simp at hw2; omega
  have hlt2 := fP_ bA_ t
  simp (disch := (try simp only [la_, lc_, ln_]); omega) only [e2, e3, go_sem, Nat.reduceEqDiff, ↓reduceIte]
  refine aa_.call (hT_ t (by omega) _) ?_
  have hsix : (t.takeWhile bA_ ++ [48, 48, 48, 48, 48, 48]).take 6 = six (cO_ (bv_ l)) := by rw [hfr]; rfl
  simp (disch := (try simp only [la_, lc_, ln_]); omega) only [gO_, hsix, go_sem, Nat.reduceEqDiff, Nat.reduceAdd, Nat.reduceLeDiff, Int.reduceLE, Int.reduceToNat, ↓reduceIte]
  refine aa_.call (hfin _) ?_
  simp (disch := (try simp only [la_, lc_, ln_]); omega) only [go_sem, Nat.reduceEqDiff, ↓reduceIte]
  refine an_ (fun hb => ?_) (fun hb => ?_)
  ·simp (disch := (try simp only [la_, lc_, ln_]); omega) only [go_sem, Nat.reduceEqDiff, ↓reduceIte]
   exact aG_ (by unfold bX_; rw [if_pos hb]; omega)
  ·simp (disch := (try simp only [la_, lc_, ln_]); omega) only [go_sem, Nat.reduceEqDiff, ↓reduceIte]
   exact aG_ (by unfold bX_; rw [if_neg (by rw [hb]; decide)])
 ·have hfr := hG_ e
  have hsix2 : ([48, 48, 48, 48, 48, 48] : List UInt8) = six (cO_ (bv_ l)) := by rw [hfr]; rfl
  rw [← hsix2] at hfin
  simp (disch := (try simp only [la_, lc_, ln_]); omega) only [e2, go_sem, Nat.reduceEqDiff, Nat.reduceAdd, Int.reduceLE, Int.reduceToNat, ↓reduceIte]
  refine aa_.call (hfin _) ?_
  simp (disch := (try simp only [la_, lc_, ln_]); omega) only [go_sem, Nat.reduceEqDiff, ↓reduceIte]
  refine an_ (fun hb => ?_) (fun hb => ?_)
  ·simp (disch := (try simp only [la_, lc_, ln_]); omega) only [go_sem, Nat.reduceEqDiff, ↓reduceIte]
   exact aG_ (by unfold bX_; rw [if_pos hb]; omega)
  ·simp (disch := (try simp only [la_, lc_, ln_]); omega) only [go_sem, Nat.reduceEqDiff, ↓reduceIte]
   exact aG_ (by unfold bX_; rw [if_neg (by rw [hb]; decide)])
def jf_ (n : Int) : Bool := do_ n (-999999999999999999) 999999999999999999
def fc_ (n : Int) : List UInt8 := if jf_ n then b3_ n else []
theorem hL_ (n : Int) : jf_ n = true ↔ -999999999999999999 ≤ n ∧ n ≤ 999999999999999999 := by simp [jf_, do_]
theorem fi_ (u : Nat) : Lib.itoa (u : Int) = Lib.decDigits u := by
 unfold Lib.itoa
 rw [if_neg (by omega)]; simp
theorem g7_ (b : UInt8) : ([48] : List UInt8).contains b = (b == 48) := by
 rw [Bool.eq_iff_iff]; simp
theorem c2_ (u : Nat) (h : u ≠ 0) : dc_ u = (if 1000000 ≤ u then Lib.decDigits (u / 1000000) else []) ++ (if 0 < u % 1000000 then 46 :: fx_ ((Lib.decDigits (1000000 + u % 1000000)).drop 1) else []) := by
 unfold dc_
 rw [if_neg h]
 congr 1
 ·unfold ce_
  by_cases q : 1000000 ≤ u
  ·rw [if_neg (by omega), if_pos q]
  ·rw [if_pos (by omega), if_neg q]
 ·unfold jN_
  by_cases q : 0 < u % 1000000
  ·rw [if_neg (by omega), if_pos q]
  ·rw [if_pos (by omega), if_neg q]
theorem fQ_ (u : Nat) (h : u ≤ 999999999999999999) : (Lib.decDigits u).length ≤ 20 ∧ 1 ≤ (Lib.decDigits u).length := by
 rw [Lib.decDigits_eq]
 simp only [length_map, length_range]
 have := hC_ 18 u (by omega)
 constructor
 ·omega
 ·unfold Lib.nDigits; split <;> omega
def zV_ : LC :=
 .seq (.ops [.s 2 (.mov (.const (.string ⟨#[]⟩)))]) (.seq (.seq (.ops [.m 5 0, .c1 6 235 5, .nt 7 6]) (.cond (.tmp 7) (.seq (.ops [.s 2 (.mov (.const (.string ⟨#[]⟩)))]) .ret) .skip)) (.seq (.seq (.ops [.m 8 0, .bk 9 .eql
 false 8 0]) (.cond (.tmp 9) (.seq (.ops [.s 2 (.mov (.const (.string ⟨#[48]⟩)))]) .ret) .skip)) (.seq (.ops [.s 3 (.mov (.const (.string ⟨#[]⟩)))]) (.seq (.seq (.ops [.m 10 0, .bk 11 .lss false 10 0]) (.cond (.tmp 11)
 (.ops [.m 12 0, .s 13 (.un .neg (.tmp 12)), .s 3 (.mov (.const (.string ⟨#[45]⟩))), .m 0 13]) .skip)) (.seq (.seq (.ops [.m 14 0, .bk 15 .geq false 14 1000000]) (.cond (.tmp 15) (.ops [.m 16 3, .m 17 0, .bk 18 .quo false
 17 1000000, .s 19 (.call 236 [.tmp 18, .const (.int .i64 10)]), .bb 20 .add false 16 19, .m 3 20]) .skip)) (.seq (.seq (.ops [.m 21 0, .bk 22 .rem false 21 1000000, .m 4 22]) (.seq (.ops [.m 23 4, .bk 24 .gtr false 23
 0]) (.cond (.tmp 24) (.ops [.m 25 3, .m 26 4, .s 27 (.bin .add false (.const (.int .i64 1000000)) (.tmp 26)), .s 28 (.call 236 [.tmp 27, .const (.int .i64 10)]), .s 29 (.sliceStr (.tmp 28) (some (.const (.int .i64 1)))
 none), .s 30 (.call 237 [.tmp 29, .const (.string ⟨#[48]⟩)]), .s 31 (.bin .add false (.const (.string ⟨#[46]⟩)) (.tmp 30)), .bb 32 .add false 25 31, .m 3 32]) .skip))) (.seq (.ops [.m 33 3, .m 2 33]) .ret)))))))
def x2_ : LF := ⟨1, 34, zV_, [.tmp 2]⟩
theorem BE_ : at_ Tryz.prog Tryz.f224 x2_ := ai_
theorem iF_ (n : Int) (h : List Row) : aa_ Tryz.prog 224 [.val (.int .i64 n)] h (.val (.string (txt (fc_ n)))) := by
 refine aj_ mixed Tryz.func224 BE_ rfl rfl ?_ h
 simp (disch := (try simp only [la_, lc_, ln_]); omega) only [x2_, zV_, go_sem, reduceCtorEq, ↓reduceIte]
 refine aa_.call (oH_ n _) ?_
 by_cases hn : jf_ n = true
 ·have hn' := (hL_ n).1 hn
  have hn2 : do_ n (-999999999999999999) 999999999999999999 = true := hn
  have hres : fc_ n = b3_ n := by unfold fc_; rw [if_pos hn]
  by_cases h0 : n = 0
  ·subst h0
   simp (disch := (try simp only [la_, lc_, ln_]); omega) only [hn2, go_sem, reduceCtorEq, Int.reduceNeg, ↓reduceIte]
   exact bs_ (by rw [hres]; congr 1)
  ·obtain ⟨u, hu⟩ : ∃ u : Nat, u = n.natAbs := ⟨_, rfl⟩
   have hu0 : u ≠ 0 := by omega
   have e2 : ((u : Int) / 1000000) = ((u / 1000000 : Nat) : Int) := by omega
   have e3 : ((u : Int) % 1000000) = ((u % 1000000 : Nat) : Int) := by omega
   have e4 : ((1000000 : Int) + ((u % 1000000 : Nat) : Int)) = ((1000000 + u % 1000000 : Nat) : Int) := by omega
   have hd1 := fQ_ (u / 1000000) (by omega)
   have hd2 := fQ_ (1000000 + u % 1000000) (by omega)
   by_cases hneg : n < 0
   ·have e1 : (0 - n) = (u : Int) := by omega
    have hs : (n < 0) = True := eq_true hneg
    have hnt : b3_ n = [45] ++ dc_ u := by unfold b3_; rw [if_pos hneg, ← hu]; rfl
    by_cases q1 : 1000000 ≤ u
    ·have hq1 : ((1000000 : Int) ≤ u) = True := by first | (simp; done) | (simp; omega)
     by_cases q2 : 0 < u % 1000000
     ·have hq2 : ((0 : Int) < ((u % 1000000 : Nat) : Int)) = True := by first | (simp; done) | (simp; omega)
      simp (disch := (try simp only [la_, lc_, ln_]); omega) only [hn2, h0, hs, e2, hq1, e1, go_sem, Nat.reduceEqDiff, reduceCtorEq, Int.reduceNeg, ↓reduceIte]
      refine aa_.call (bW_ _ (by omega) (by omega) _) ?_
      rw [fi_]
      simp (disch := (try simp only [la_, lc_, ln_]); omega) only [e3, hq2, go_sem, Nat.reduceEqDiff, reduceCtorEq, ↓reduceIte]
      refine aa_.call (bW_ _ (by omega) (by omega) _) ?_
      rw [e4, fi_]
      simp (disch := (try simp only [la_, lc_, ln_]); omega) only [take_length, go_sem, Int.reduceLE, Int.reduceToNat, ↓reduceIte]
      refine aa_.call (dt_ _ _ (by simp only [length_drop]; omega) (by decide) (by decide) _) ?_
      rw [db_ g7_, ← fx_]
      have htl := e9_ ((Lib.decDigits (1000000 + u % 1000000)).drop 1)
      rw [length_drop] at htl
      simp (disch := (try simp only [la_, lc_, ln_]); omega) only [go_sem, Nat.reduceEqDiff, ↓reduceIte]
      exact bs_ (by rw [hres, hnt, c2_ u hu0, if_pos q1, if_pos q2]; simp)
     ·have hq2 : ((0 : Int) < ((u % 1000000 : Nat) : Int)) = False := by first | (simp; done) | (simp; omega)
      simp (disch := (try simp only [la_, lc_, ln_]); omega) only [hn2, h0, hs, e2, hq1, e1, go_sem, Nat.reduceEqDiff, reduceCtorEq, Int.reduceNeg, ↓reduceIte]
      refine aa_.call (bW_ _ (by omega) (by omega) _) ?_
      rw [fi_]
      simp (disch := (try simp only [la_, lc_, ln_]); omega) only [e3, hq2, go_sem, Nat.reduceEqDiff, reduceCtorEq, ↓reduceIte]
      exact bs_ (by rw [hres, hnt, c2_ u hu0, if_pos q1, if_neg q2]; simp)
    ·have hq1 : ((1000000 : Int) ≤ u) = False := by first | (simp; done) | (simp; omega)
     by_cases q2 : 0 < u % 1000000
     ·have hq2 : ((0 : Int) < ((u % 1000000 : Nat) : Int)) = True := by first | (simp; done) | (simp; omega)
      simp (disch := (try simp only [la_, lc_, ln_]); omega) only [hn2, h0, hs, e3, hq1, hq2, e1, go_sem, Nat.reduceEqDiff, reduceCtorEq, Int.reduceNeg, ↓reduceIte]
      refine aa_.call (bW_ _ (by omega) (by omega) _) ?_
      rw [e4, fi_]
      simp (disch := (try simp only [la_, lc_, ln_]); omega) only [take_length, go_sem, Int.reduceLE, Int.reduceToNat, ↓reduceIte]
      refine aa_.call (dt_ _ _ (by simp only [length_drop]; omega) (by decide) (by decide) _) ?_
      rw [db_ g7_, ← fx_]
      have htl := e9_ ((Lib.decDigits (1000000 + u % 1000000)).drop 1)
      rw [length_drop] at htl
      simp (disch := (try simp only [la_, lc_, ln_]); omega) only [go_sem, Nat.reduceEqDiff, ↓reduceIte]
      exact bs_ (by rw [hres, hnt, c2_ u hu0, if_neg q1, if_pos q2]; simp)
     ·have hq2 : ((0 : Int) < ((u % 1000000 : Nat) : Int)) = False := by first | (simp; done) | (simp; omega)
      simp (disch := (try simp only [la_, lc_, ln_]); omega) only [hn2, h0, hs, e3, hq1, hq2, e1, go_sem, Nat.reduceEqDiff, reduceCtorEq, Int.reduceNeg, ↓reduceIte]
      exact bs_ (by rw [hres, hnt, c2_ u hu0, if_neg q1, if_neg q2]; simp)
   ·have e1 : n = (u : Int) := by omega
    have hs : ((u : Int) < 0) = False := by first | (simp; done) | (simp; omega)
    have hnt : b3_ n = [] ++ dc_ u := by unfold b3_; rw [if_neg hneg, ← hu]; rfl
    clear hu
    subst e1
    by_cases q1 : 1000000 ≤ u
    ·have hq1 : ((1000000 : Int) ≤ u) = True := by first | (simp; done) | (simp; omega)
     by_cases q2 : 0 < u % 1000000
     ·have hq2 : ((0 : Int) < ((u % 1000000 : Nat) : Int)) = True := by first | (simp; done) | (simp; omega)
      simp (disch := (try simp only [la_, lc_, ln_]); omega) only [hn2, h0, hs, e2, hq1, go_sem, Nat.reduceEqDiff, reduceCtorEq, Int.reduceNeg, ↓reduceIte]
      refine aa_.call (bW_ _ (by omega) (by omega) _) ?_
      rw [fi_]
      simp (disch := (try simp only [la_, lc_, ln_]); omega) only [e3, hq2, go_sem, Nat.reduceEqDiff, reduceCtorEq, ↓reduceIte]
      refine aa_.call (bW_ _ (by omega) (by omega) _) ?_
      rw [e4, fi_]
      simp (disch := (try simp only [la_, lc_, ln_]); omega) only [take_length, go_sem, Int.reduceLE, Int.reduceToNat, ↓reduceIte]
      refine aa_.call (dt_ _ _ (by simp only [length_drop]; omega) (by decide) (by decide) _) ?_
      rw [db_ g7_, ← fx_]
      have htl := e9_ ((Lib.decDigits (1000000 + u % 1000000)).drop 1)
      rw [length_drop] at htl
      simp (disch := (try simp only [la_, lc_, ln_]); omega) only [go_sem, Nat.reduceEqDiff, ↓reduceIte]
      exact bs_ (by rw [hres, hnt, c2_ u hu0, if_pos q1, if_pos q2]; simp)
     ·have hq2 : ((0 : Int) < ((u % 1000000 : Nat) : Int)) = False := by first | (simp; done) | (simp; omega)
      simp (disch := (try simp only [la_, lc_, ln_]); omega) only [hn2, h0, hs, e2, hq1, go_sem, Nat.reduceEqDiff, reduceCtorEq, Int.reduceNeg, ↓reduceIte]
      refine aa_.call (bW_ _ (by omega) (by omega) _) ?_
      rw [fi_]
      simp (disch := (try simp only [la_, lc_, ln_]); omega) only [e3, hq2, go_sem, Nat.reduceEqDiff, reduceCtorEq, ↓reduceIte]
      exact bs_ (by rw [hres, hnt, c2_ u hu0, if_pos q1, if_neg q2]; simp)
    ·have hq1 : ((1000000 : Int) ≤ u) = False := by first | (simp; done) | (simp; omega)
     by_cases q2 : 0 < u % 1000000
     ·have hq2 : ((0 : Int) < ((u % 1000000 : Nat) : Int)) = True := by first | (simp; done) | (simp; omega)
      simp (disch := (try simp only [la_, lc_, ln_]); omega) only [hn2, h0, hs, e3, hq1, hq2, go_sem, Nat.reduceEqDiff, reduceCtorEq, Int.reduceNeg, ↓reduceIte]
      refine aa_.call (bW_ _ (by omega) (by omega) _) ?_
      rw [e4, fi_]
      simp (disch := (try simp only [la_, lc_, ln_]); omega) only [take_length, go_sem, Int.reduceLE, Int.reduceToNat, ↓reduceIte]
      refine aa_.call (dt_ _ _ (by simp only [length_drop]; omega) (by decide) (by decide) _) ?_
      rw [db_ g7_, ← fx_]
      have htl := e9_ ((Lib.decDigits (1000000 + u % 1000000)).drop 1)
      rw [length_drop] at htl
      simp (disch := (try simp only [la_, lc_, ln_]); omega) only [go_sem, Nat.reduceEqDiff, ↓reduceIte]
      exact bs_ (by rw [hres, hnt, c2_ u hu0, if_neg q1, if_pos q2]; simp)
     ·have hq2 : ((0 : Int) < ((u % 1000000 : Nat) : Int)) = False := by first | (simp; done) | (simp; omega)
      simp (disch := (try simp only [la_, lc_, ln_]); omega) only [hn2, h0, hs, e3, hq1, hq2, go_sem, Nat.reduceEqDiff, reduceCtorEq, Int.reduceNeg, ↓reduceIte]
      exact bs_ (by rw [hres, hnt, c2_ u hu0, if_neg q1, if_neg q2]; simp)
 ·have hn2 : do_ n (-999999999999999999) 999999999999999999 = false := by simpa [jf_] using hn
  simp (disch := (try simp only [la_, lc_, ln_]); omega) only [hn2, go_sem, Int.reduceNeg, ↓reduceIte]
  exact bs_ (by unfold fc_; rw [if_neg hn])
def A8_ : LC :=
 .seq (.ops [.s 2 (.mov (.const (.bool false)))]) (.seq (.ops [.m 3 0, .c1 4 205 3, .c1 5 224 4, .m 6 0, .bb 7 .eql false 5 6, .m 2 7]) .ret)
def xo_ : LF := ⟨1, 8, A8_, [.tmp 2]⟩
theorem Ds_ : at_ Tryz.prog Tryz.f203 xo_ := ai_
theorem tY_ (l : List UInt8) : fc_ (bX_ l) = b3_ (bX_ l) := by
 unfold fc_; rw [if_pos ((hL_ _).2 (eF_ l))]
theorem mP_ (l : List UInt8) (hl : l.length ≤ 1900000) (h : List Row) : aa_ Tryz.prog 203 [.val (.string (txt l))] h (.val (.bool (b4_ l))) := by
 refine aj_ mixed Tryz.func203 Ds_ rfl rfl ?_ h
 simp (disch := (try simp only [la_, lc_, ln_]); omega) only [xo_, A8_, go_sem, reduceCtorEq, ↓reduceIte]
 refine aa_.call (j8_ l hl _) ?_
 simp (disch := (try simp only [la_, lc_, ln_]); omega) only [go_sem, ↓reduceIte]
 refine aa_.call (iF_ _ _) ?_
 simp (disch := (try simp only [la_, lc_, ln_]); omega) only [tY_, go_sem, Nat.reduceEqDiff, reduceCtorEq, ↓reduceIte]
 exact ae_ rfl
end Go.Proofs.YtfplhbjggecnpaaGreatDoor
namespace Go.Proofs.YtfplhbjggecnpaaGreatDoor
open List
open Go.AW
set_option linter.unusedVariables false
set_option linter.unusedSimpArgs false
set_option maxRecDepth 4000
def uK_ : LC :=
 .seq (.ops [.s 2 (.mov (.const (.string ⟨#[]⟩)))]) (.seq (.seq (.ops [.m 3 0, .bk 4 .eql false 3 0]) (.cond (.tmp 4) (.seq (.ops [.s 2 (.mov (.const (.string ⟨#[]⟩)))]) .ret) .skip)) (.seq (.dops [.m 5 0, .bk 6 .quo
 false 5 10, .c1 7 223 6, .m 8 0, .bk 9 .rem false 8 10, .s 10 (.bin .add false (.const (.int .i64 48)) (.tmp 9)), .s 11 (.convInt .u8 (.tmp 10)), .s 12 (.buildImm 5 1 (.int .u8 0) 1 [(0, .tmp 11)]), .s 13 (.toStr (.tmp
 12)), .bb 14 .add false 7 13, .m 2 14]) .ret))
def sj_ : LF := ⟨1, 15, uK_, [.tmp 2]⟩
theorem Bi_ : at_ Tryz.prog Tryz.f223 sj_ := ai_
theorem qY_ (u : Nat) (h : u ≠ 0) : ce_ u = ce_ (u / 10) ++ [UInt8.ofNat (48 + u % 10)] := by
 unfold ce_
 rw [if_neg h, Lib.decDigits]
 by_cases q : u < 10
 ·rw [dif_pos q, if_pos (by omega)]
  have : u % 10 = u := by omega
  rw [this]; rfl
 ·rw [dif_neg q, if_neg (by omega)]
theorem mO_ (u : Nat) (h : u ≤ 999999999999999999) : (ce_ u).length ≤ 20 := by
 unfold ce_; split
 ·simp
 ·exact (fQ_ u h).1
theorem if_ (u : Nat) : u ≤ 999999999999999999 → ∀ h : List Row, aa_ Tryz.prog 223 [.val (.int .i64 u)] h (.val (.string (txt (ce_ u)))) := by
 induction u using Nat.strongRecOn with
 | _ u ih =>
 intro hu h
 refine aj_ mixed Tryz.func223 Bi_ rfl rfl ?_ h
 by_cases h0 : u = 0
 ·subst h0
  simp (disch := (try simp only [la_, lc_, ln_]); omega) only [sj_, uK_, go_sem, reduceCtorEq, ↓reduceIte]
  exact bs_ rfl
 ·have h0' : ((u : Int) = 0) = False := by first | (simp; done) | (simp; omega)
  have e2 : ((u : Int) / 10) = ((u / 10 : Nat) : Int) := by omega
  have hl := mO_ (u / 10) (by omega)
  have e5 : UInt8.ofNat (48 + (u : Int) % 10).toNat = UInt8.ofNat (48 + u % 10) := by first | (congr 1; done) | (congr 1; omega)
  simp (disch := (try simp only [la_, lc_, ln_]); omega) only [sj_, uK_, h0', e2, go_sem, Nat.reduceEqDiff, reduceCtorEq, ↓reduceIte]
  refine aa_.q (ih (u / 10) (by omega) (by omega) _) ?_
  simp (disch := (try simp only [la_, lc_, ln_]); omega) only [e5, go_sem]
  exact bs_ (by rw [qY_ u h0])
def vA_ : LC :=
 .seq (.ops [.s 2 (.mov (.const (.string ⟨#[]⟩)))]) (.seq (.seq (.ops [.m 6 0, .bk 7 .lss false 6 0]) (.cond (.tmp 7) (.seq (.ops [.m 8 0, .s 9 (.un .neg (.tmp 8)), .c1 10 196 9, .s 11 (.bin .add false (.const (.string
 ⟨#[45]⟩)) (.tmp 10)), .m 2 11]) .ret) .skip)) (.seq (.ops [.m 12 0, .bk 13 .quo false 12 1000000, .c1 14 223 13, .m 3 14]) (.seq (.ops [.m 15 0, .bk 16 .rem false 15 1000000, .m 4 16]) (.seq (.seq (.ops [.m 17 4, .bk 18
 .gtr false 17 0]) (.cond (.tmp 18) (.seq (.ops [.m 19 4, .s 20 (.bin .add false (.const (.int .i64 1000000)) (.tmp 19)), .c1 21 223 20, .s 22 (.sliceStr (.tmp 21) (some (.const (.int .i64 1))) none), .m 5 22]) (.seq
 (.block 0 (.loop (.seq (.seq (.ops [.m 23 5, .m 24 5, .s 25 (.lenStr (.tmp 24)), .bk 26 .sub false 25 1, .s 27 (.indexStr (.tmp 23) (.tmp 26)), .s 28 (.bin .eql false (.tmp 27) (.const (.int .u8 48)))]) (.cond (.tmp 28)
 .skip (.exit 0))) (.block 1 (.ops [.m 29 5, .m 30 5, .s 31 (.lenStr (.tmp 30)), .bk 32 .sub false 31 1, .s 33 (.sliceStr (.tmp 29) none (some (.tmp 32))), .m 5 33]))))) (.ops [.m 34 3, .m 35 5, .s 36 (.bin .add false
 (.const (.string ⟨#[46]⟩)) (.tmp 35)), .bb 37 .add false 34 36, .m 3 37]))) .skip)) (.seq (.seq (.ops [.m 38 3, .s 39 (.bin .eql false (.tmp 38) (.const (.string ⟨#[]⟩)))]) (.cond (.tmp 39) (.seq (.ops [.s 2 (.mov
 (.const (.string ⟨#[48]⟩)))]) .ret) .skip)) (.seq (.ops [.m 40 3, .m 2 40]) .ret))))))
def sJ_ : LF := ⟨1, 41, vA_, [.tmp 2]⟩
theorem tm_ : at_ Tryz.prog Tryz.f196 sJ_ := ai_
theorem sB_ (f : List UInt8) (h : f ≠ []) : fx_ f = if f.getLast h = 48 then fx_ f.dropLast else f := by
 have e : f = f.dropLast ++ [f.getLast h] := (dropLast_concat_getLast h).symm
 unfold fx_
 by_cases q : f.getLast h = 48
 ·rw [if_pos q]
  conv => lhs; rw [e]
  rw [reverse_append, reverse_singleton, singleton_append, dropWhile_cons, q]
  rfl
 ·rw [if_neg q]
  conv => lhs; rw [e]
  rw [reverse_append, reverse_singleton, singleton_append, dropWhile_cons]
  have : (f.getLast h == 48) = false := by simpa using q
  rw [this]
  simp only [Bool.false_eq_true, if_false, reverse_cons, reverse_reverse]
  exact e.symm
theorem hU_ (u : Nat) (hu : u ≤ 999999999999999999) (h : List Row) : aa_ Tryz.prog 196 [.val (.int .i64 u)] h (.val (.string (txt (dc_ u)))) := by
 refine aj_ mixed Tryz.func196 tm_ rfl rfl ?_ h
 have hs : ((u : Int) < 0) = False := by first | (simp; done) | (simp; omega)
 have e2 : ((u : Int) / 1000000) = ((u / 1000000 : Nat) : Int) := by omega
 have e3 : ((u : Int) % 1000000) = ((u % 1000000 : Nat) : Int) := by omega
 have e4 : ((1000000 : Int) + ((u % 1000000 : Nat) : Int)) = ((1000000 + u % 1000000 : Nat) : Int) := by omega
 have hw1 := mO_ (u / 1000000) (by omega)
 simp (disch := (try simp only [la_, lc_, ln_]); omega) only [sJ_, vA_, hs, e2, go_sem, reduceCtorEq, ↓reduceIte]
 refine aa_.call (if_ (u / 1000000) (by omega) _) ?_
 by_cases q2 : 0 < u % 1000000
 ·have hq2 : ((0 : Int) < ((u % 1000000 : Nat) : Int)) = True := by first | (simp; done) | (simp; omega)
  have hd2 := fQ_ (1000000 + u % 1000000) (by omega)
  simp (disch := (try simp only [la_, lc_, ln_]); omega) only [hq2, e3, e4, go_sem, Nat.reduceEqDiff, reduceCtorEq, ↓reduceIte]
  refine aa_.call (if_ (1000000 + u % 1000000) (by omega) _) ?_
  have hwd : ce_ (1000000 + u % 1000000) = Lib.decDigits (1000000 + u % 1000000) := by unfold ce_; rw [if_neg (by omega)]
  rw [hwd]
  simp (disch := (try simp only [la_, lc_, ln_]); omega) only [take_length, go_sem, Int.reduceLE, Int.reduceToNat, ↓reduceIte]
  obtain ⟨b0, hb0, hb48⟩ := t0_ (r := u % 1000000) (by omega) (by omega)
  refine aL_ (fun m t h => ∃ f : List UInt8, t 5 = .val (.string (txt f)) ∧ t 3 = .val (.string (txt (ce_ (u / 1000000)))) ∧ m = f.length ∧ f.length ≤ 20 ∧ (∃ b ∈ f, b ≠ 48) ∧ fx_ ((Lib.decDigits (1000000 + u % 1000000)).drop 1) = fx_ f) _ ⟨_, rfl, rfl, rfl, ?_, ⟨b0, hb0, hb48⟩, rfl⟩ ?_
  ·rw [length_drop]; omega
  ·rintro J hJ m t h ⟨f, t5, t3, rfl, hf, ⟨b, hb, hbn⟩, hT⟩
   have hne : f ≠ [] := by intro e; subst e; simp at hb
   have hpos : 0 < f.length := length_pos_iff.2 hne
   have hlast : f[f.length - 1]? = some (f.getLast hne) := by rw [getLast_eq_getElem, getElem?_eq_getElem (by omega)]
   have hsub : ((f.length : Int) - 1) = ((f.length - 1 : Nat) : Int) := by omega
   rw [sB_ f hne] at hT
   by_cases q : f.getLast hne = 48
   ·rw [if_pos q] at hT
    have q' : (((f.getLast hne).toNat : Int) = 48) = True := eq_true (by rw [q]; rfl)
    simp (disch := (try simp only [la_, lc_, ln_]); omega) only [t5, hsub, hlast, q', go_sem, Nat.reduceEqDiff, ↓reduceIte]
    refine ⟨f.length - 1, by omega, hJ _ _ _ ⟨f.dropLast, by simp [upd, dropLast_eq_take], by simp [upd, t3], by simp, by simp; omega, ⟨b, ?_, hbn⟩, hT⟩⟩
    have e : f = f.dropLast ++ [f.getLast hne] := (dropLast_concat_getLast hne).symm
    rw [e] at hb
    rcases mem_append.1 hb with z | z
    ·exact z
    ·simp at z; rw [q] at z; exact absurd z hbn
   ·rw [if_neg q] at hT
    have q' : (((f.getLast hne).toNat : Int) = 48) = False := by
     have := oZ_ (f.getLast hne) 48
     rw [show ((UInt8.toNat 48 : Nat) : Int) = 48 from rfl] at this
     rw [this]; simp [q]
    have hne2 : (ce_ (u / 1000000) ++ 46 :: f = []) = False := by simp
    simp (disch := (try simp only [la_, lc_, ln_]); omega) only [t5, t3, hsub, hlast, q', hne2, go_sem, Nat.reduceEqDiff, ↓reduceIte]
    exact bs_ (by rw [dc_, if_neg (by omega), jN_, if_neg (by omega), hT])
 ·have hq2 : ((0 : Int) < ((u % 1000000 : Nat) : Int)) = False := by first | (simp; done) | (simp; omega)
  simp (disch := (try simp only [la_, lc_, ln_]); omega) only [hq2, e3, go_sem, Nat.reduceEqDiff, reduceCtorEq, ↓reduceIte]
  by_cases hu0 : u = 0
  ·subst hu0
   have : (ce_ (0 / 1000000) = []) = True := by simp [ce_]
   simp (disch := (try simp only [la_, lc_, ln_]); omega) only [this, go_sem, ↓reduceIte]
   exact bs_ rfl
  ·have : (ce_ (u / 1000000) = []) = False := by
    have hx : u / 1000000 ≠ 0 := by omega
    simp [ce_, hx, k3_]
   simp (disch := (try simp only [la_, lc_, ln_]); omega) only [this, go_sem, Nat.reduceEqDiff, ↓reduceIte]
   exact bs_ (by rw [dc_, if_neg hu0, jN_, if_pos (by omega)]; simp)
theorem qp_ (n : Int) (h : n < 0) : b3_ n = 45 :: dc_ n.natAbs := by unfold b3_; rw [if_pos h]
theorem qX_ (n : Int) (h : 0 ≤ n) : b3_ n = dc_ n.natAbs := by unfold b3_; rw [if_neg (by omega)]
theorem ii_ (n : Int) (h1 : -999999999999999999 ≤ n) (h2 : n ≤ 999999999999999999) (h : List Row) : aa_ Tryz.prog 196 [.val (.int .i64 n)] h (.val (.string (txt (b3_ n)))) := by
 by_cases hneg : n < 0
 ·refine aj_ mixed Tryz.func196 tm_ rfl rfl ?_ h
  have e1 : (0 - n) = ((n.natAbs : Nat) : Int) := by omega
  have hl := i4_ (u := n.natAbs) (by omega)
  simp (disch := (try simp only [la_, lc_, ln_]); omega) only [sJ_, vA_, hneg, e1, go_sem, reduceCtorEq, ↓reduceIte]
  refine aa_.call (hU_ n.natAbs (by omega) _) ?_
  simp (disch := (try simp only [la_, lc_, ln_]); omega) only [go_sem, ↓reduceIte]
  exact bs_ (by rw [qp_ n hneg])
 ·have e : n = ((n.natAbs : Nat) : Int) := by omega
  rw [qX_ n (by omega)]
  have := hU_ n.natAbs (by omega) h
  rw [← e] at this
  exact this
theorem ve_ {l : List UInt8} {k : Nat} (hk : k < l.length) (hs : dk_ l[k] = true) {m : Bool} (h : d6_ l = (m != (((l.drop k).takeWhile dk_).count 45 % 2 == 1))) :
 d6_ l = ((m != (l[k] == 45)) != (((l.drop (k + 1)).takeWhile dk_).count 45 % 2 == 1)) := by
 rw [h, cF_ l k hk, takeWhile_cons, if_pos hs, count_cons]
 generalize ((l.drop (k + 1)).takeWhile dk_).count 45 = c
 by_cases q : l[k] = 45
 ·rw [q]
  have h1 : ((c + 1) % 2 == 1) = !(c % 2 == 1) := by
   rw [Bool.eq_iff_iff]; simp; omega
  simp only [BEq.rfl, if_true, h1]
  cases m <;> cases (c % 2 == 1) <;> rfl
 ·have q' : (l[k] == 45) = false := by simpa using q
  simp [q']
def Am_ : LC :=
 .seq (.ops [.ki 2 0]) (.seq (.ops [.ki 3 0]) (.seq (.ops [.s 4 (.mov (.const (.bool false)))]) (.seq (.block 0 (.loop (.seq (.seq (.ops [.m 7 3, .m 8 0, .s 9 (.lenStr (.tmp 8)), .bb 10 .lss false 7 9, .m 11 10, .g 12 11
 true (.mov (.tmp 0)), .g 13 11 true (.mov (.tmp 3)), .g 14 11 true (.indexStr (.tmp 12) (.tmp 13)), .g 15 11 true (.bin .eql false (.tmp 14) (.const (.int .u8 43))), .g 16 11 true (.mov (.tmp 15)), .g 17 16 false (.mov
 (.tmp 0)), .g 18 16 false (.mov (.tmp 3)), .g 19 16 false (.indexStr (.tmp 17) (.tmp 18)), .g 20 16 false (.bin .eql false (.tmp 19) (.const (.int .u8 45))), .g 21 11 true (.pick (.tmp 16) (.const (.bool true)) (.tmp
 20)), .pf 22 11 21]) (.cond (.tmp 22) .skip (.exit 0))) (.block 1 (.seq (.ops [.m 23 4, .m 24 0, .m 25 3, .s 26 (.indexStr (.tmp 24) (.tmp 25)), .s 27 (.bin .eql false (.tmp 26) (.const (.int .u8 45))), .bb 28 .neq true
 23 27, .m 4 28]) (.ops [.m 29 3, .bk 30 .add false 29 1, .m 3 30])))))) (.seq (.ops [.ki 5 0]) (.seq (.block 2 (.loop (.seq (.seq (.ops [.m 31 3, .m 32 0, .s 33 (.lenStr (.tmp 32)), .bb 34 .lss false 31 33, .m 35 34, .g
 36 35 true (.mov (.tmp 0)), .g 37 35 true (.mov (.tmp 3)), .g 38 35 true (.indexStr (.tmp 36) (.tmp 37)), .g 39 35 true (.call 220 [.tmp 38]), .pf 40 35 39]) (.cond (.tmp 40) .skip (.exit 2))) (.block 3 (.seq (.ops [.m
 41 5, .s 42 (.bin .mul false (.const (.int .i64 10)) (.tmp 41)), .m 43 0, .m 44 3, .s 45 (.indexStr (.tmp 43) (.tmp 44)), .s 46 (.bin .sub false (.tmp 45) (.const (.int .u8 48))), .s 47 (.convInt .i64 (.tmp 46)), .bb 48
 .add false 42 47, .s 49 (.call 234 [.tmp 48, .const (.int .i64 1000000000000)]), .m 5 49]) (.ops [.m 50 3, .bk 51 .add false 50 1, .m 3 51])))))) (.seq (.ops [.m 52 5, .bk 53 .mul false 52 1000000, .s 54 (.call 234 [.tmp
 53, .const (.int .i64 1000000000000000000)]), .m 5 54]) (.seq (.seq (.ops [.m 55 3, .m 56 0, .s 57 (.lenStr (.tmp 56)), .bb 58 .lss false 55 57, .m 59 58, .g 60 59 true (.mov (.tmp 0)), .g 61 59 true (.mov (.tmp 3)), .g
 62 59 true (.indexStr (.tmp 60) (.tmp 61)), .g 63 59 true (.bin .eql false (.tmp 62) (.const (.int .u8 46))), .pf 64 59 63]) (.cond (.tmp 64) (.seq (.ops [.ki 6 100000]) (.seq (.ops [.m 65 3, .bk 66 .add false 65 1, .m 3
 66]) (.block 4 (.loop (.seq (.seq (.ops [.m 67 3, .m 68 0, .s 69 (.lenStr (.tmp 68)), .bb 70 .lss false 67 69, .m 71 70, .g 72 71 true (.mov (.tmp 0)), .g 73 71 true (.mov (.tmp 3)), .g 74 71 true (.indexStr (.tmp 72)
 (.tmp 73)), .g 75 71 true (.call 220 [.tmp 74]), .pf 76 71 75]) (.cond (.tmp 76) .skip (.exit 4))) (.seq (.block 5 (.seq (.ops [.m 79 5, .m 80 0, .m 81 3, .s 82 (.indexStr (.tmp 80) (.tmp 81)), .s 83 (.bin .sub false
 (.tmp 82) (.const (.int .u8 48))), .s 84 (.convInt .i64 (.tmp 83)), .m 85 6, .bb 86 .mul false 84 85, .bb 87 .add false 79 86, .m 5 87]) (.ops [.m 88 6, .bk 89 .quo false 88 10, .m 6 89]))) (.ops [.m 77 3, .bk 78 .add
 false 77 1, .m 3 78]))))))) .skip)) (.seq (.ops [.m 90 5, .s 91 (.call 234 [.tmp 90, .const (.int .i64 999999999999999999)]), .m 5 91]) (.seq (.seq (.ops [.m 92 4]) (.cond (.tmp 92) (.seq (.ops [.m 93 5, .s 94 (.un .neg
 (.tmp 93)), .m 2 94]) .ret) .skip)) (.seq (.ops [.m 95 5, .m 2 95]) .ret))))))))))
def ww_ : LF := ⟨1, 96, Am_, [.tmp 2]⟩
theorem AS_ : at_ Tryz.prog Tryz.f222 ww_ := ai_
theorem hr_ (l : List UInt8) (hl : l.length ≤ 1900000) (h : List Row) : aa_ Tryz.prog 222 [.val (.string (txt l))] h (.val (.int .i64 (bX_ l))) := by
 refine aj_ mixed Tryz.func222 AS_ rfl rfl ?_ h
 simp (disch := (try simp only [la_, lc_, ln_]); omega) only [ww_, Am_, go_sem]
 refine iQ_ (fun m t h => ∃ (k : Nat) (s : Bool), t 0 = .val (.string (txt l)) ∧ t 3 = .val (.int .i64 k) ∧ t 4 = .val (.bool s) ∧ m = l.length - k ∧ k ≤ l.length ∧ bv_ l = (l.drop k).dropWhile dk_ ∧ d6_ l = (s != (((l.drop k).takeWhile dk_).count 45 % 2 == 1))) l.length
  (fun t h => ∃ k : Nat, t 0 = .val (.string (txt l)) ∧ t 3 = .val (.int .i64 k) ∧ t 4 = .val (.bool (d6_ l)) ∧ k ≤ l.length ∧ bv_ l = l.drop k) ⟨0, false, rfl, rfl, rfl, rfl, Nat.zero_le _, rfl, by simp [d6_]⟩ ?_ ?_
 ·rintro J hJ k' hE m t h ⟨k, s, t0, t3, t4, rfl, hk, hR, hN⟩
  by_cases hlt : k < l.length
  ·have hu := mI_ l[k]
   have e43 := oZ_ l[k] 43
   have e45 := oZ_ l[k] 45
   rw [show ((UInt8.toNat 43 : Nat) : Int) = 43 from rfl] at e43
   rw [show ((UInt8.toNat 45 : Nat) : Int) = 45 from rfl] at e45
   by_cases hs : dk_ l[k] = true
   ·have hR' : bv_ l = (l.drop (k + 1)).dropWhile dk_ := by rw [hR, cF_ l k hlt, dropWhile_cons, if_pos hs]
    have hN' := ve_ hlt hs hN
    by_cases q : l[k] = 43
    ·have q45 : ¬ (l[k] = 45) := by rw [q]; decide
     have e43' := e43.trans (eq_true q)
     have e45' := e45.trans (eq_false q45)
     simp (disch := (try simp only [la_, lc_, ln_]); omega) only [t0, t3, t4, hlt, e43', e45', go_sem, Nat.reduceEqDiff, reduceCtorEq, ↓reduceIte]
     refine ⟨l.length - (k + 1), by omega, hJ _ _ _ ⟨k + 1, s, by simp [upd, t0], by simp [upd], by simp [upd], rfl, by omega, hR', ?_⟩⟩
     rw [hN', q]; simp
    ·have q45 : l[k] = 45 := by simpa [dk_, q] using hs
     have e43' := e43.trans (eq_false q)
     have e45' := e45.trans (eq_true q45)
     simp (disch := (try simp only [la_, lc_, ln_]); omega) only [t0, t3, t4, hlt, e43', e45', go_sem, Nat.reduceEqDiff, reduceCtorEq, ↓reduceIte]
     refine ⟨l.length - (k + 1), by omega, hJ _ _ _ ⟨k + 1, !s, by simp [upd, t0], by simp [upd], by simp [upd]; try cases s <;> rfl, rfl, by omega, hR', ?_⟩⟩
     rw [hN', q45]; cases s <;> simp
   ·have hs' : dk_ l[k] = false := by simpa using hs
    have q43 : ¬ (l[k] = 43) := by intro e; rw [e] at hs; exact hs rfl
    have q45 : ¬ (l[k] = 45) := by intro e; rw [e] at hs; exact hs rfl
    have e43' := e43.trans (eq_false q43)
    have e45' := e45.trans (eq_false q45)
    have hR' : bv_ l = l.drop k := by rw [hR, cF_ l k hlt, dropWhile_cons, hs']; rfl
    have hN' : d6_ l = s := by rw [hN, cF_ l k hlt, takeWhile_cons, hs']; simp
    simp (disch := (try simp only [la_, lc_, ln_]); omega) only [t0, t3, hlt, e43', e45', go_sem, Nat.reduceEqDiff, reduceCtorEq, ↓reduceIte]
    exact hE _ _ ⟨k, by simp [upd, t0], by simp [upd, t3], by simp [upd, t4, hN'], hk, hR'⟩
  ·have hR' : bv_ l = l.drop k := by rw [hR, drop_eq_nil_of_le (by omega)]; rfl
   have hN' : d6_ l = s := by rw [hN, drop_eq_nil_of_le (by omega)]; simp
   simp (disch := (try simp only [la_, lc_, ln_]); omega) only [t0, t3, hlt, go_sem, Nat.reduceEqDiff, reduceCtorEq, ↓reduceIte]
   exact hE _ _ ⟨k, by simp [upd, t0], by simp [upd, t3], by simp [upd, t4, hN'], hk, hR'⟩
 rintro t h ⟨k0, t0, t3, t4, hk0, hR⟩
 simp (disch := (try simp only [la_, lc_, ln_]); omega) only [go_sem]
 refine iQ_ (fun m t h => ∃ (k n : Nat), t 0 = .val (.string (txt l)) ∧ t 3 = .val (.int .i64 k) ∧ t 4 = .val (.bool (d6_ l)) ∧ t 5 = .val (.int .i64 n) ∧ m = l.length - k ∧ k ≤ l.length ∧ n ≤ 1000000000000 ∧ (bv_ l).dropWhile bA_ = (l.drop k).dropWhile bA_ ∧ dB_ 0 (bv_ l) = dB_ n (l.drop k)) (l.length - k0)
  (fun t h => ∃ k : Nat, t 0 = .val (.string (txt l)) ∧ t 3 = .val (.int .i64 k) ∧ t 4 = .val (.bool (d6_ l)) ∧ t 5 = .val (.int .i64 (dB_ 0 (bv_ l) : Nat)) ∧ k ≤ l.length ∧ dB_ 0 (bv_ l) ≤ 1000000000000 ∧ (bv_ l).dropWhile bA_ = l.drop k) ⟨k0, 0, by simp [upd, t0], by simp [upd, t3], by simp [upd, t4], by simp [upd], rfl, hk0, by decide, by rw [hR], by rw [hR]⟩ ?_ ?_
 ·rintro J hJ k' hE m t h ⟨k, n, t0, t3, t4, t5, rfl, hk, hn, hD, hW⟩
  by_cases hlt : k < l.length
  ·have hu := mI_ l[k]
   simp (disch := (try simp only [la_, lc_, ln_]); omega) only [t0, t3, hlt, go_sem, Nat.reduceEqDiff, reduceCtorEq, ↓reduceIte]
   refine aa_.call (h2_ l[k] _) ?_
   by_cases hd : bA_ l[k] = true
   ·have hr := k5_ hd
    rw [cF_ l k hlt, dB_, if_pos hd] at hW
    rw [cF_ l k hlt, dropWhile_cons, if_pos hd] at hD
    simp (disch := (try simp only [la_, lc_, ln_]); omega) only [t0, t3, t5, hd, go_sem, Nat.reduceEqDiff, reduceCtorEq, ↓reduceIte]
    refine aa_.call (eB_ _ _ _) ?_
    simp (disch := (try simp only [la_, lc_, ln_]); omega) only [t3, go_sem, Nat.reduceEqDiff, ↓reduceIte]
    refine ⟨l.length - (k + 1), by omega, hJ _ _ _ ⟨k + 1, min (10 * n + dgt l[k]) 1000000000000, by simp [upd, t0], by simp [upd], by simp [upd, t4], ?_, rfl, by omega, by omega, hD, hW⟩⟩
    simp only [upd, dgt]; simp; omega
   ·have hd' : bA_ l[k] = false := by simpa using hd
    rw [cF_ l k hlt, dB_, if_neg hd] at hW
    have hD' : (bv_ l).dropWhile bA_ = l.drop k := by rw [hD, cF_ l k hlt, dropWhile_cons, hd']; rfl
    simp (disch := (try simp only [la_, lc_, ln_]); omega) only [hd', go_sem, Nat.reduceEqDiff, ↓reduceIte]
    exact hE _ _ ⟨k, by simp [upd, t0], by simp [upd, t3], by simp [upd, t4], by simp [upd, t5, hW], hk, by omega, hD'⟩
  ·rw [drop_eq_nil_of_le (by omega), dB_] at hW
   have hD' : (bv_ l).dropWhile bA_ = l.drop k := by rw [hD, drop_eq_nil_of_le (by omega)]; rfl
   simp (disch := (try simp only [la_, lc_, ln_]); omega) only [t0, t3, hlt, go_sem, Nat.reduceEqDiff, reduceCtorEq, ↓reduceIte]
   exact hE _ _ ⟨k, by simp [upd, t0], by simp [upd, t3], by simp [upd, t4], by simp [upd, t5, hW], hk, by omega, hD'⟩
 rintro t h ⟨k1, t0, t3, t4, t5, hk1, hwl, hD⟩
 simp (disch := (try simp only [la_, lc_, ln_]); omega) only [t5, go_sem, ↓reduceIte]
 refine aa_.call (eB_ _ _ _) ?_
 obtain ⟨n1, hn1⟩ : ∃ n1 : Nat, n1 = min (dB_ 0 (bv_ l) * 1000000) 1000000000000000000 := ⟨_, rfl⟩
 have en1 : min ((dB_ 0 (bv_ l) : Int) * 1000000) 1000000000000000000 = (n1 : Int) := by omega
 rw [en1]
 have hle := kO_ l
 have hab : min (n1 + dn_ 0 (six (cO_ (bv_ l)))) 999999999999999999 = fB_ l := by rw [hn1]; exact uI_ l
 have habI : ∀ x : Nat, x = n1 + dn_ 0 (six (cO_ (bv_ l))) → min (x : Int) 999999999999999999 = (fB_ l : Int) := by intro x hx; omega
 have hn1le : n1 ≤ 1000000000000000000 := by omega
 by_cases hlt : k1 < l.length
 case neg =>
  have hfr : cO_ (bv_ l) = [] := hG_ (by rw [hD, drop_eq_nil_of_le (by omega)]; simp)
  have hz := habI n1 (by rw [hfr]; rfl)
  simp (disch := (try simp only [la_, lc_, ln_]); omega) only [t0, t3, hlt, go_sem, Nat.reduceEqDiff, reduceCtorEq, ↓reduceIte]
  refine aa_.call (eB_ _ _ _) ?_
  simp (disch := (try simp only [la_, lc_, ln_]); omega) only [t4, hz, go_sem, Nat.reduceEqDiff, ↓reduceIte]
  refine an_ (fun hb => ?_) (fun hb => ?_)
  ·simp (disch := (try simp only [la_, lc_, ln_]); omega) only [go_sem, Nat.reduceEqDiff, ↓reduceIte]
   exact aG_ (by unfold bX_; rw [if_pos hb]; omega)
  ·simp (disch := (try simp only [la_, lc_, ln_]); omega) only [go_sem, Nat.reduceEqDiff, ↓reduceIte]
   exact aG_ (by unfold bX_; rw [if_neg (by rw [hb]; decide)])
 have e46 := oZ_ l[k1] 46
 rw [show ((UInt8.toNat 46 : Nat) : Int) = 46 from rfl] at e46
 by_cases hdot : l[k1] = 46
 case neg =>
  have e46' := e46.trans (eq_false hdot)
  have hfr : cO_ (bv_ l) = [] := hG_ (by rw [hD, cF_ l k1 hlt]; intro t e; exact hdot (List.cons.inj e).1)
  have hz := habI n1 (by rw [hfr]; rfl)
  simp (disch := (try simp only [la_, lc_, ln_]); omega) only [t0, t3, hlt, e46', go_sem, Nat.reduceEqDiff, reduceCtorEq, ↓reduceIte]
  refine aa_.call (eB_ _ _ _) ?_
  simp (disch := (try simp only [la_, lc_, ln_]); omega) only [t4, hz, go_sem, Nat.reduceEqDiff, ↓reduceIte]
  refine an_ (fun hb => ?_) (fun hb => ?_)
  ·simp (disch := (try simp only [la_, lc_, ln_]); omega) only [go_sem, Nat.reduceEqDiff, ↓reduceIte]
   exact aG_ (by unfold bX_; rw [if_pos hb]; omega)
  ·simp (disch := (try simp only [la_, lc_, ln_]); omega) only [go_sem, Nat.reduceEqDiff, ↓reduceIte]
   exact aG_ (by unfold bX_; rw [if_neg (by rw [hb]; decide)])
 have e46' := e46.trans (eq_true hdot)
 have hfr : cO_ (bv_ l) = (l.drop (k1 + 1)).takeWhile bA_ := jS_ (by rw [hD, cF_ l k1 hlt, hdot])
 have hrun : n1 + dn_ 0 (six (cO_ (bv_ l))) = eD_ n1 100000 (l.drop (k1 + 1)) := by
  rw [hfr]; exact (jK_ (l.drop (k1 + 1)) n1 6 (by decide)).symm
 simp (disch := (try simp only [la_, lc_, ln_]); omega) only [t0, t3, hlt, e46', go_sem, Nat.reduceEqDiff, reduceCtorEq, ↓reduceIte]
 refine iQ_ (fun m t h => ∃ (k n u : Nat), t 0 = .val (.string (txt l)) ∧ t 3 = .val (.int .i64 k) ∧ t 4 = .val (.bool (d6_ l)) ∧ t 5 = .val (.int .i64 n) ∧ t 6 = .val (.int .i64 u) ∧ m = l.length - k ∧ k ≤ l.length ∧ n + 10 * u ≤ 1000000000001000000 ∧ eD_ n1 100000 (l.drop (k1 + 1)) = eD_ n u (l.drop k)) (l.length - (k1 + 1))
  (fun t h => t 4 = .val (.bool (d6_ l)) ∧ t 5 = .val (.int .i64 (eD_ n1 100000 (l.drop (k1 + 1)) : Nat))) ⟨k1 + 1, n1, 100000, by simp [upd, t0], by simp [upd], by simp [upd, t4], by simp [upd], by simp [upd], rfl, by omega, by omega, rfl⟩ ?_ ?_
 ·rintro J hJ k' hE m t h ⟨k, n, u, t0, t3, t4, t5, t6, rfl, hk, hb, hF⟩
  by_cases hlt : k < l.length
  ·have hu := mI_ l[k]
   simp (disch := (try simp only [la_, lc_, ln_]); omega) only [t0, t3, hlt, go_sem, Nat.reduceEqDiff, reduceCtorEq, ↓reduceIte]
   refine aa_.call (h2_ l[k] _) ?_
   by_cases hd : bA_ l[k] = true
   ·have hr := k5_ hd
    rw [cF_ l k hlt, eD_, if_pos hd] at hF
    have hmul : dgt l[k] * u ≤ 9 * u := Nat.mul_le_mul_right _ (by unfold dgt; omega)
    have e5 : (((l[k].toNat : Nat) : Int) - 48) * ((u : Nat) : Int) = ((dgt l[k] * u : Nat) : Int) := by
     have : ((l[k].toNat : Nat) : Int) - 48 = ((dgt l[k] : Nat) : Int) := by unfold dgt; omega
     rw [this]; simp
    have e6 : ((u : Nat) : Int) / 10 = ((u / 10 : Nat) : Int) := by omega
    simp (disch := (try simp only [la_, lc_, ln_]); omega) only [t0, t3, t5, t6, hd, e5, e6, go_sem, Nat.reduceEqDiff, reduceCtorEq, ↓reduceIte]
    refine ⟨l.length - (k + 1), by omega, hJ _ _ _ ⟨k + 1, n + dgt l[k] * u, u / 10, by simp [upd, t0], by simp [upd], by simp [upd, t4], by simp [upd], by simp [upd], rfl, by omega, by omega, hF⟩⟩
   ·have hd' : bA_ l[k] = false := by simpa using hd
    rw [cF_ l k hlt, eD_, if_neg hd] at hF
    simp (disch := (try simp only [la_, lc_, ln_]); omega) only [hd', go_sem, Nat.reduceEqDiff, ↓reduceIte]
    exact hE _ _ ⟨by simp [upd, t4], by simp [upd, t5, hF]⟩
  ·have hnil : l.drop k = [] := drop_eq_nil_of_le (by omega)
   rw [hnil, eD_] at hF
   simp (disch := (try simp only [la_, lc_, ln_]); omega) only [t0, t3, hlt, go_sem, Nat.reduceEqDiff, reduceCtorEq, ↓reduceIte]
   exact hE _ _ ⟨by simp [upd, t4], by simp [upd, t5, hF]⟩
 rintro t h ⟨t4, t5⟩
 have hz := habI _ hrun.symm
 simp (disch := (try simp only [la_, lc_, ln_]); omega) only [t5, go_sem, ↓reduceIte]
 refine aa_.call (eB_ _ _ _) ?_
 simp (disch := (try simp only [la_, lc_, ln_]); omega) only [t4, hz, go_sem, Nat.reduceEqDiff, ↓reduceIte]
 refine an_ (fun hb => ?_) (fun hb => ?_)
 ·simp (disch := (try simp only [la_, lc_, ln_]); omega) only [go_sem, Nat.reduceEqDiff, ↓reduceIte]
  exact aG_ (by unfold bX_; rw [if_pos hb]; omega)
 ·simp (disch := (try simp only [la_, lc_, ln_]); omega) only [go_sem, Nat.reduceEqDiff, ↓reduceIte]
  exact aG_ (by unfold bX_; rw [if_neg (by rw [hb]; decide)])
def sN_ : LC :=
 .seq (.ops [.s 2 (.mov (.const (.bool false)))]) (.seq (.ops [.m 3 0, .s 4 (.bin .neq false (.tmp 3) (.const (.string ⟨#[]⟩))), .m 5 4, .g 6 5 true (.mov (.tmp 0)), .g 7 5 true (.lenStr (.tmp 6)), .g 8 5 true (.bin .leq
 false (.tmp 7) (.const (.int .i64 21))), .pf 9 5 8, .m 10 9, .g 11 10 true (.mov (.tmp 0)), .g 12 10 true (.call 222 [.tmp 11]), .g 13 10 true (.call 196 [.tmp 12]), .g 14 10 true (.mov (.tmp 0)), .g 15 10 true (.bin
 .eql false (.tmp 13) (.tmp 14)), .pf 16 10 15, .m 2 16]) .ret)
def o1_ : LF := ⟨1, 17, sN_, [.tmp 2]⟩
theorem Bz_ : at_ Tryz.prog Tryz.f221 o1_ := ai_
theorem hS_ (l : List UInt8) (hl : l.length ≤ 1900000) (h : List Row) : aa_ Tryz.prog 221 [.val (.string (txt l))] h (.val (.bool (b4_ l))) := by
 refine aj_ mixed Tryz.func221 Bz_ rfl rfl ?_ h
 rw [← st_]
 have hr := eF_ l
 by_cases h0 : l = []
 ·have h0' : (l = []) = True := eq_true h0
  simp (disch := (try simp only [la_, lc_, ln_]); omega) only [o1_, sN_, h0', go_sem, Nat.reduceEqDiff, reduceCtorEq, ↓reduceIte]
  exact ae_ (by simp [h0])
 ·have h0' : (l = []) = False := eq_false h0
  by_cases h21 : (l.length : Int) ≤ 21
  ·simp (disch := (try simp only [la_, lc_, ln_]); omega) only [o1_, sN_, h0', h21, go_sem, Nat.reduceEqDiff, reduceCtorEq, ↓reduceIte]
   refine aa_.call (hr_ l hl _) ?_
   simp (disch := (try simp only [la_, lc_, ln_]); omega) only [go_sem, Nat.reduceEqDiff, ↓reduceIte]
   refine aa_.call (ii_ _ hr.1 hr.2 _) ?_
   simp (disch := (try simp only [la_, lc_, ln_]); omega) only [go_sem, Nat.reduceEqDiff, reduceCtorEq, ↓reduceIte]
   have : l.length ≤ 21 := by omega
   exact ae_ (by simp [this])
  ·simp (disch := (try simp only [la_, lc_, ln_]); omega) only [o1_, sN_, h0', h21, go_sem, Nat.reduceEqDiff, reduceCtorEq, ↓reduceIte]
   have : ¬ (l.length ≤ 21) := by omega
   exact ae_ (by simp [this])
end Go.Proofs.YtfplhbjggecnpaaGreatDoor
namespace Go.AW
set_option linter.unusedSimpArgs false
theorem eP_ : ∀ a : List UInt8, Op.bytesLess a a = false
 | [] => rfl
 | x :: a => by simp [Op.bytesLess, eP_ a, UInt8.lt_irrefl]
theorem hI_ : ∀ a b : List UInt8, Op.bytesLess a b = false → Op.bytesLess b a = false → a = b
 | [], [], _, _ => rfl
 | [], _ :: _, h, _ => by simp [Op.bytesLess] at h
 | _ :: _, [], _, h => by simp [Op.bytesLess] at h
 | x :: a, y :: b, h1, h2 => by
  simp only [Op.bytesLess, Bool.or_eq_false_iff, Bool.and_eq_false_iff, decide_eq_false_iff_not, beq_eq_false_iff_ne] at h1 h2
  have e : x = y := UInt8.le_antisymm (UInt8.not_lt.1 h2.1) (UInt8.not_lt.1 h1.1)
  subst e
  rw [hI_ a b (by simpa using h1.2) (by simpa using h2.2)]
theorem mG_ : ∀ a b : List UInt8, Op.bytesLess a b = true → Op.bytesLess b a = false
 | [], [], h => by simp [Op.bytesLess] at h
 | [], _ :: _, _ => rfl
 | _ :: _, [], h => by simp [Op.bytesLess] at h
 | x :: a, y :: b, h => by
  simp only [Op.bytesLess, Bool.or_eq_true, Bool.and_eq_true, decide_eq_true_eq, beq_iff_eq] at h
  simp only [Op.bytesLess, Bool.or_eq_false_iff, Bool.and_eq_false_iff, decide_eq_false_iff_not, beq_eq_false_iff_ne]
  rcases h with h | ⟨h, k⟩
  ·exact ⟨fun q => UInt8.lt_irrefl x (UInt8.lt_trans h q), .inl fun e => by subst e; exact UInt8.lt_irrefl _ h⟩
  ·subst h
   exact ⟨UInt8.lt_irrefl _, .inr (mG_ a b k)⟩
def iZ_ (a b : List UInt8) : Int := if Op.bytesLess a b then -1 else if Op.bytesLess b a then 1 else 0
def ko_ (a b : Int) : Int := if a < b then -1 else if b < a then 1 else 0
theorem hl_ (a b : List UInt8) : iZ_ a b = 0 ↔ a = b := by
 unfold iZ_
 constructor
 ·intro h
  split at h
  ·simp at h
  ·split at h
   ·simp at h
   ·exact hI_ a b (by simpa using ‹¬ Op.bytesLess a b = true›) (by simpa using ‹¬ Op.bytesLess b a = true›)
 ·rintro rfl; simp [eP_]
theorem pp_ (a b : List UInt8) : iZ_ a b < 0 ↔ Op.bytesLess a b = true := by
 unfold iZ_
 split
 ·simp_all
 ·split <;> simp_all
theorem uf_ (a b : Int) : ko_ a b = 0 ↔ a = b := by
 unfold ko_
 split
 ·omega
 ·split <;> omega
theorem u1_ (a b : Int) : ko_ a b < 0 ↔ a < b := by
 unfold ko_
 split
 ·omega
 ·split <;> omega
def dj_ (a b : List UInt8) : Int := if b4_ a && b4_ b then ko_ (bX_ a) (bX_ b) else if b4_ a then -1 else if b4_ b then 1 else iZ_ a b
def before (a b : List UInt8) : Bool := if b4_ a && b4_ b then decide (bX_ a < bX_ b) else if b4_ a != b4_ b then b4_ a else Op.bytesLess a b
theorem fg_ (a b : List UInt8) : dj_ a b = 0 ↔ a = b := by
 unfold dj_
 cases ha : b4_ a <;> cases hb : b4_ b <;> simp only [Bool.and_true, Bool.and_false, Bool.false_eq_true, if_true, if_false]
 ·exact hl_ a b
 ·constructor
  ·intro h; simp at h
  ·rintro rfl; rw [ha] at hb; simp at hb
 ·constructor
  ·intro h; simp at h
  ·rintro rfl; rw [ha] at hb; simp at hb
 ·rw [uf_]
  exact ⟨ti_ ha hb, fun h => by rw [h]⟩
theorem iY_ (a b : List UInt8) : dj_ a b < 0 ↔ before a b = true := by
 unfold dj_ before
 cases ha : b4_ a <;> cases hb : b4_ b <;> simp only [Bool.and_true, Bool.and_false, Bool.false_eq_true, if_true, if_false, bne_self_eq_false]
 ·exact pp_ a b
 ·simp
 ·simp
 ·rw [u1_]; simp
def fy_ : List (List UInt8) → List (List UInt8) → Int
 | [], [] => 0
 | [], _ :: _ => -1
 | _ :: _, [] => 1
 | x :: xs, y :: ys => if dj_ x y = 0 then fy_ xs ys else dj_ x y
def cf_ : List (List UInt8) → List (List UInt8) → Bool
 | [], [] => false
 | [], _ :: _ => true
 | _ :: _, [] => false
 | x :: xs, y :: ys => if x = y then cf_ xs ys else before x y
theorem l9_ : ∀ xs ys, fy_ xs ys < 0 ↔ cf_ xs ys = true
 | [], [] => by simp [fy_, cf_]
 | [], _ :: _ => by simp [fy_, cf_]
 | _ :: _, [] => by simp [fy_, cf_]
 | x :: xs, y :: ys => by
  simp only [fy_, cf_]
  by_cases h : x = y
  ·rw [if_pos ((fg_ x y).2 h), if_pos h]; exact l9_ xs ys
  ·rw [if_neg (fun q => h ((fg_ x y).1 q)), if_neg h]; exact iY_ x y
theorem n3_ : ∀ xs ys, fy_ xs ys = 0 ↔ xs = ys
 | [], [] => by simp [fy_]
 | [], _ :: _ => by simp [fy_]
 | _ :: _, [] => by simp [fy_]
 | x :: xs, y :: ys => by
  simp only [fy_]
  by_cases h : x = y
  ·rw [if_pos ((fg_ x y).2 h), n3_ xs ys]; simp [h]
  ·have := fun q => h ((fg_ x y).1 q)
   rw [if_neg this]; simp only [List.cons.injEq, h, false_and, iff_false]; exact this
def gS_ (n : List UInt8) (s : List (List UInt8)) (o : List UInt8) (os : List (List UInt8)) : Int := if iZ_ n o = 0 then fy_ s os else iZ_ n o
def d3_ (n : List UInt8) (s : List (List UInt8)) (o : List UInt8) (os : List (List UInt8)) : Bool := if n = o then cf_ s os else Op.bytesLess n o
theorem p1_ (n : List UInt8) (s : List (List UInt8)) (o : List UInt8) (os : List (List UInt8)) : gS_ n s o os < 0 ↔ d3_ n s o os = true := by
 unfold gS_ d3_
 by_cases h : n = o
 ·rw [if_pos ((hl_ n o).2 h), if_pos h]; exact l9_ s os
 ·rw [if_neg (fun q => h ((hl_ n o).1 q)), if_neg h]; exact pp_ n o
theorem tU_ (n : List UInt8) (s : List (List UInt8)) (o : List UInt8) (os : List (List UInt8)) : gS_ n s o os = 0 ↔ n = o ∧ s = os := by
 unfold gS_
 by_cases h : n = o
 ·rw [if_pos ((hl_ n o).2 h), n3_]; simp [h]
 ·have := fun q => h ((hl_ n o).1 q)
  rw [if_neg this]; simp only [h, false_and, iff_false]; exact this
def dq_ (n j : Nat) : UInt8 := UInt8.ofNat (n / 256 ^ j % 256)
def be8 (n : Nat) : List UInt8 := [dq_ n 7, dq_ n 6, dq_ n 5, dq_ n 4, dq_ n 3, dq_ n 2, dq_ n 1, dq_ n 0]
def cr_ (acc : Nat) (l : List UInt8) : Nat := l.foldl (fun a b => a * 256 + b.toNat) acc
theorem ks_ (n j : Nat) : (dq_ n j).toNat = n / 256 ^ j % 256 := by
 unfold dq_; rw [UInt8.toNat_ofNat']; omega
theorem px_ (n : Nat) (h : n < 18446744073709551616) : cr_ 0 (be8 n) = n := by
 simp only [cr_, be8, foldl_cons, foldl_nil, ks_, Nat.reducePow]
 omega
theorem pC_ (acc : Nat) : cr_ acc [] = acc := by unfold cr_; rw [foldl_nil]
theorem tV_ (acc : Nat) (b : UInt8) (l : List UInt8) : cr_ acc (b :: l) = cr_ (acc * 256 + b.toNat) l := by unfold cr_; rw [foldl_cons]
theorem nK_ : ∀ (l : List UInt8) (acc : Nat), cr_ acc l < (acc + 1) * 256 ^ l.length
 | [], acc => by rw [pC_]; simp
 | b :: l, acc => by
  rw [tV_]
  have h := nK_ l (acc * 256 + b.toNat)
  have hb := b.toNat_lt
  have h2 : (acc * 256 + b.toNat + 1) * 256 ^ l.length ≤ ((acc + 1) * 256) * 256 ^ l.length := Nat.mul_le_mul_right _ (by omega)
  rw [lc_, Nat.pow_succ, Nat.mul_comm (256 ^ l.length), ← Nat.mul_assoc]
  omega
def esc : List UInt8 → List UInt8
 | [] => []
 | b :: l => if b = 0 then 0 :: 255 :: esc l else b :: esc l
def di_ (l : List UInt8) : Nat := (bX_ l + 1000000000000000000).toNat
def cw_ (l : List UInt8) : List UInt8 := if b4_ l then 1 :: be8 (di_ l) else 2 :: (esc l ++ [0, 0])
def cU_ (xs : List (List UInt8)) : List UInt8 := xs.flatMap cw_
theorem pq_ : cU_ [] = [] := rfl
theorem on_ (x : List UInt8) (xs : List (List UInt8)) : cU_ (x :: xs) = cw_ x ++ cU_ xs := rfl
theorem tl_ (l : List UInt8) : cw_ l ≠ [] := by unfold cw_; split <;> simp
theorem iv_ (l : List UInt8) : 1 ≤ di_ l ∧ di_ l ≤ 1999999999999999999 := by
 have := eF_ l
 unfold di_; omega
theorem it_ (l : List UInt8) : ((di_ l : Nat) : Int) = bX_ l + 1000000000000000000 := by
 have := eF_ l
 unfold di_; omega
theorem jM_ : ∀ l : List UInt8, (esc l).length ≤ 2 * l.length
 | [] => by simp [esc]
 | b :: l => by
  have := jM_ l
  unfold esc
  split <;> simp only [lc_] <;> omega
theorem j6_ (l : List UInt8) : (cw_ l).length ≤ 2 * l.length + 9 := by
 have := jM_ l
 unfold cw_
 split
 ·simp [be8]
 ·simp only [lc_, la_, ln_]; omega
def cs_ : List UInt8 → List UInt8 → Option (List UInt8 × List UInt8)
 | b :: c :: r, acc => if b = 0 then (if c = 0 then some (acc, r) else if c = 255 then cs_ r (acc ++ [0]) else none) else cs_ (c :: r) (acc ++ [b])
 | [_], _ => none
 | [], _ => none
theorem hg_ (b c : UInt8) (r acc : List UInt8) : cs_ (b :: c :: r) acc = if b = 0 then (if c = 0 then some (acc, r) else if c = 255 then cs_ r (acc ++ [0]) else none) else cs_ (c :: r) (acc ++ [b]) := by
 rw [cs_]
theorem qI_ (l acc : List UInt8) (h : l.length < 2) : cs_ l acc = none := by
 match l, h with
 | [], _ => rw [cs_]
 | [_], _ => rw [cs_]
theorem mn_ (l acc : List UInt8) (i : Nat) (h : i + 1 < l.length) : cs_ (l.drop i) acc = if l[i] = 0 then (if l[i + 1] = 0 then some (acc, l.drop (i + 2)) else if l[i + 1] = 255 then cs_ (l.drop (i + 2)) (acc ++ [0]) else none) else cs_ (l.drop (i + 1)) (acc ++ [l[i]]) := by
 rw [drop_eq_getElem_cons (by omega : i < l.length), drop_eq_getElem_cons h, hg_]
theorem om_ (l acc : List UInt8) (i : Nat) (h : l.length ≤ i + 1) : cs_ (l.drop i) acc = none :=
 qI_ _ _ (by rw [length_drop]; omega)
theorem io_ : ∀ (l acc t r : List UInt8), cs_ l acc = some (t, r) → t.length ≤ acc.length + l.length ∧ r.length ≤ l.length
 | [], acc, t, r, h => by rw [cs_] at h; cases h
 | [_], acc, t, r, h => by rw [cs_] at h; cases h
 | b :: c :: l, acc, t, r, h => by
  rw [hg_] at h
  split at h
  ·split at h
   ·simp only [Option.some.injEq, Prod.mk.injEq] at h
    obtain ⟨rfl, rfl⟩ := h
    simp only [lc_]; omega
   ·split at h
    ·have := io_ l _ t r h
     simp only [la_, lc_, ln_] at this ⊢; omega
    ·cases h
  ·have := io_ (c :: l) _ t r h
   simp only [la_, lc_, ln_] at this ⊢; omega
theorem kn_ : ∀ (x rest acc : List UInt8), cs_ (esc x ++ (0 :: 0 :: rest)) acc = some (acc ++ x, rest)
 | [], rest, acc => by
  rw [esc, nil_append, hg_, if_pos rfl, if_pos rfl, append_nil]
 | b :: x, rest, acc => by
  have ih := kn_ x rest (acc ++ [b])
  by_cases h : b = 0
  ·subst h
   rw [esc, if_pos rfl, cons_append, cons_append, hg_, if_pos rfl, if_neg (by decide), if_pos rfl, ih, append_assoc]
   rfl
  ·rw [esc, if_neg h, cons_append]
   cases hq : esc x ++ (0 :: 0 :: rest) with
   | nil => simp at hq
   | cons c r => rw [hg_, if_neg h, ← hq, ih, append_assoc]; rfl
def gP_ (n : Int) : List UInt8 := if -999999999999999999 ≤ n ∧ n ≤ 999999999999999999 then b3_ n else []
def dV_ : List UInt8 → Option (List UInt8 × List UInt8)
 | [] => none
 | b :: l => if b = 1 then (if l.length < 8 then none else if 2000000000000000000 < cr_ 0 (l.take 8) then none else some (gP_ ((cr_ 0 (l.take 8) : Int) - 1000000000000000000), l.drop 8))
  else if b = 2 then cs_ l [] else none
def dr_ : List UInt8 → Option (List UInt8 × List UInt8)
 | [] => none
 | b :: l => if b = 1 ∧ 8 ≤ l.length then (if 1 ≤ cr_ 0 (l.take 8) ∧ cr_ 0 (l.take 8) ≤ 1999999999999999999 then some (b3_ ((cr_ 0 (l.take 8) : Int) - 1000000000000000000), l.drop 8) else none)
  else if b = 2 then cs_ l [] else none
theorem d8_ (n : Nat) : (be8 n).length = 8 := rfl
theorem p3_ (n : Nat) (r : List UInt8) : (be8 n ++ r).take 8 = be8 n := take_left' (d8_ n)
theorem pI_ (n : Nat) (r : List UInt8) : (be8 n ++ r).drop 8 = r := drop_left' (d8_ n)
theorem kL_ (x r : List UInt8) : dV_ (cw_ x ++ r) = some (x, r) := by
 unfold cw_
 by_cases h : b4_ x = true
 ·have hk := iv_ x
  have hq := it_ x
  rw [if_pos h, cons_append, dV_, if_pos rfl, if_neg (by simp [d8_]), p3_, pI_, px_ _ (by omega), if_neg (by omega)]
  have e : ((di_ x : Nat) : Int) - 1000000000000000000 = bX_ x := by omega
  have hn := eF_ x
  rw [e, gP_, if_pos hn, of_decide_eq_true (by exact h : decide (b3_ (bX_ x) = x) = true)]
 ·rw [if_neg h, cons_append, dV_, if_neg (by decide), if_pos rfl, append_assoc]
  exact kn_ x r []
theorem or_ (x r : List UInt8) : dr_ (cw_ x ++ r) = some (x, r) := by
 unfold cw_
 by_cases h : b4_ x = true
 ·have hk := iv_ x
  have hq := it_ x
  rw [if_pos h, cons_append, dr_, if_pos ⟨rfl, by simp [d8_]⟩, p3_, pI_, px_ _ (by omega), if_pos (by omega)]
  have e : ((di_ x : Nat) : Int) - 1000000000000000000 = bX_ x := by omega
  rw [e, of_decide_eq_true (by exact h : decide (b3_ (bX_ x) = x) = true)]
 ·rw [if_neg h, cons_append, dr_, if_neg (by rintro ⟨q, _⟩; exact absurd q (by decide)), if_pos rfl, append_assoc]
  exact kn_ x r []
theorem ob_ (l t r : List UInt8) (h : dV_ l = some (t, r)) : t.length ≤ l.length + 20 ∧ r.length < l.length := by
 cases l with
 | nil => cases h
 | cons b l =>
  rw [dV_] at h
  split at h
  ·split at h
   ·cases h
   ·split at h
    ·cases h
    ·simp only [Option.some.injEq, Prod.mk.injEq] at h
     obtain ⟨rfl, rfl⟩ := h
     refine ⟨?_, by simp only [length_drop, lc_]; omega⟩
     unfold gP_
     split
     ·rename_i q; have := gL_ q.1 q.2; simp only [lc_]; omega
     ·simp
  ·split at h
   ·have := io_ l [] t r h
    simp only [ln_, lc_] at this ⊢; omega
   ·cases h
theorem tW_ (l t r : List UInt8) (h : dr_ l = some (t, r)) : t.length ≤ l.length + 20 ∧ r.length < l.length := by
 cases l with
 | nil => cases h
 | cons b l =>
  rw [dr_] at h
  split at h
  ·split at h
   ·rename_i q
    simp only [Option.some.injEq, Prod.mk.injEq] at h
    obtain ⟨rfl, rfl⟩ := h
    refine ⟨?_, by simp only [length_drop, lc_]; omega⟩
    have := gL_ (n := (cr_ 0 (l.take 8) : Int) - 1000000000000000000) (by omega) (by omega)
    simp only [lc_]; omega
   ·cases h
  ·split at h
   ·have := io_ l [] t r h
    simp only [ln_, lc_] at this ⊢; omega
   ·cases h
def z4_ (x : List UInt8) : Bool := decide (1 ≤ x.length) && decide (x.length ≤ 24)
def eI_ (xs : List (List UInt8)) : Bool := decide (xs.length ≤ 4) && xs.all z4_
def cX_ (take : List UInt8 → Option (List UInt8 × List UInt8)) : Nat → List UInt8 → List (List UInt8) → Option (List (List UInt8) × List UInt8)
 | 0, left, out => some (out, left)
 | f + 1, left, out => if left = [] then some (out, left) else match take left with
  | none => none
  | some (t, r) => cX_ take f r (out ++ [t])
def f1_ (take : List UInt8 → Option (List UInt8 × List UInt8)) (s : List UInt8) : Option (List (List UInt8)) :=
 match cX_ take 5 s [] with
 | none => none
 | some (out, left) => if left = [] ∧ eI_ out = true ∧ cU_ out = s then some out else none
theorem qa_ {take : List UInt8 → Option (List UInt8 × List UInt8)} (hA : ∀ x r, take (cw_ x ++ r) = some (x, r)) : ∀ (xs : List (List UInt8)) (f : Nat) (out : List (List UInt8)), xs.length ≤ f → cX_ take f (cU_ xs) out = some (out ++ xs, [])
 | [], 0, out, _ => by rw [cX_, pq_, append_nil]
 | [], f + 1, out, _ => by rw [cX_, pq_, if_pos rfl, append_nil]
 | x :: xs, 0, out, h => by simp at h
 | x :: xs, f + 1, out, h => by
  rw [cX_, on_, if_neg (by simp [tl_]), hA]
  simp only
  rw [qa_ hA xs f _ (by simpa using h), append_assoc]; rfl
theorem h6_ {take : List UInt8 → Option (List UInt8 × List UInt8)} (hA : ∀ x r, take (cw_ x ++ r) = some (x, r)) (s : List UInt8) (xs : List (List UInt8)) : f1_ take s = some xs ↔ eI_ xs = true ∧ cU_ xs = s := by
 constructor
 ·intro h
  unfold f1_ at h
  split at h
  ·cases h
  ·rename_i out left _
   split at h
   ·rename_i q
    simp only [Option.some.injEq] at h
    subst h
    exact q.2
   ·cases h
 ·rintro ⟨h1, h2⟩
  have hl : xs.length ≤ 4 := by simp only [eI_, Bool.and_eq_true, decide_eq_true_eq] at h1; exact h1.1
  have := qa_ hA xs 5 [] (by omega)
  rw [h2, nil_append] at this
  unfold f1_
  rw [this]
  simp only
  rw [if_pos ⟨trivial, h1, h2⟩]
theorem kH_ (s : List UInt8) : f1_ dV_ s = f1_ dr_ s := by
 cases h : f1_ dr_ s with
 | some xs => exact (h6_ kL_ s xs).2 ((h6_ or_ s xs).1 h)
 | none =>
  cases h2 : f1_ dV_ s with
  | none => rfl
  | some xs =>
   have := (h6_ or_ s xs).2 ((h6_ kL_ s xs).1 h2)
   rw [h] at this; cases this
end Go.AW
