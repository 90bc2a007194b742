/-
 AW: pairs of numbers in rows of the call's own; a sort of the library's, taken over.
-/
import Derived.Test.YtddmifalinefnaaGreatDoorAwC
import Derived.Shelf.GgSortFunc.RowK
namespace Go.AW
open List
open Go.RowKit (Below)
open Go.Sort (Holds putRow grow mapBlock onCells putCells HoldsK putRowK flatK)
set_option linter.unusedSimpArgs false
def dZ_ (p : Int × Int) : List Value := [.int .i64 p.1, .int .i64 p.2]
def aD_ (ps : List (Int × Int)) : List (List AV) := ps.map fun p => [.val (.int .i64 p.1), .val (.int .i64 p.2)]
theorem a0_ (ps : List (Int × Int)) : (aD_ ps).length = ps.length := by simp [aD_]
theorem gi_ (ps : List (Int × Int)) : ∀ e ∈ aD_ ps, e.length = 2 := by
 intro e he
 obtain ⟨z, _, q⟩ := mem_map.1 he
 subst q; rfl
theorem ju_ (ps : List (Int × Int)) : ∀ e ∈ aD_ ps, e.all AV.flat = true := by
 intro e he
 obtain ⟨z, _, q⟩ := mem_map.1 he
 subst q; rfl
theorem dG_ (ps : List (Int × Int)) (k : Nat) (h : k < ps.length) : (aD_ ps)[k]? = some [.val (.int .i64 ps[k].1), .val (.int .i64 ps[k].2)] := by
 simp [aD_, h]
theorem h0_ (a b : List (Int × Int)) : aD_ a ++ aD_ b = aD_ (a ++ b) := by simp [aD_]
theorem pm_ (ps : List (Int × Int)) (k : Nat) (p : Int × Int) : (aD_ ps).set k [.val (.int .i64 p.1), .val (.int .i64 p.2)] = aD_ (ps.set k p) := by simp [aD_, map_set]
theorem jt_ (ps : List (Int × Int)) (k : Nat) : (aD_ ps).take k = aD_ (ps.take k) := by simp [aD_, map_take]
theorem js_ {S : Sit} {ps : List (Int × Int)} {vs : List Value} : an_ S (aD_ ps) vs ↔ ∀ (j : Nat) (h : j < ps.length), vs[j * 2]? = some (.int .i64 ps[j].1) ∧ vs[j * 2 + 1]? = some (.int .i64 ps[j].2) := by
 rw [br_ (sz := 2) (gi_ ps)]
 constructor
 ·intro h j hj
  obtain ⟨v, h1, h2⟩ := h j _ (dG_ ps j hj) 0 _ rfl
  obtain ⟨v', h1', h2'⟩ := h j _ (dG_ ps j hj) 1 _ rfl
  simp only [Rep] at h2 h2'
  subst h2 h2'
  exact ⟨h1, h1'⟩
 ·intro h i e he j c hc
  have hi : i < ps.length := by
   have := (List.getElem?_eq_some_iff.1 he).1
   simpa [aD_] using this
  rw [dG_ ps i hi] at he
  simp at he; subst he
  obtain ⟨h1, h2⟩ := h i hi
  cases j with
  | zero => simp at hc; subst hc; exact ⟨_, h1, by simp [Rep]⟩
  | succ j =>
   cases j with
   | zero => simp at hc; subst hc; exact ⟨_, h2, by simp [Rep]⟩
   | succ j => simp at hc
theorem lg_ (ps : List (Int × Int)) (t : Nat) (h : t < ps.length * 2) : (flatK dZ_ 2 ps.toArray)[t]! = if t % 2 = 0 then .int .i64 (ps[t / 2]'(by omega)).1 else .int .i64 (ps[t / 2]'(by omega)).2 := by
 rw [Go.Sort.get_flatK _ _ _ _ (by simpa using h)]
 have hj : t / 2 < ps.length := by omega
 have e : ps.toArray[t / 2]! = ps[t / 2] := by
  rw [getElem!_pos _ _ (by simpa using hj)]; simp
 rw [e]
 rcases Nat.mod_two_eq_zero_or_one t with q | q
 ·rw [q]; rfl
 ·rw [q]; rfl
theorem qD_ {P : Program} {f : FuncId} {E : TypeId} {g : FuncId} {le : Int × Int → Int × Int → Bool}
 (hS : ∀ (blk off cap : Nat) (ps : List (Int × Int)) (w : World), HoldsK dZ_ 2 w blk off ps.toArray → blk < w.heap.size → ps.length < 4611686018427387904 →
   Calls P f #[.slice (some ⟨blk, off, none⟩) ps.length cap, .func (.func g) #[] #[]] w fun e w' => e = .returned (.tuple #[]) ∧ ∃ n os, w' = grow (putRowK dZ_ 2 (Go.Sort.ahead w n) blk off (ps.mergeSort le).toArray) os)
 (h0 : ∀ (p : Option Addr) (cap : Nat) (w : World), Calls P f #[.slice p 0 cap, .func (.func g) #[] #[]] w fun e w' => e = .returned (.tuple #[]) ∧ w' = w)
 {ps : List (Int × Int)} {l : Nat} {H : List Row} (hl : H[l]? = some ⟨.ty E, 2, aD_ ps⟩) (hlen : ps.length < 4611686018427387904) {K : AV → List Row → Prop} (hk : K (.tup []) (H.set l ⟨.ty E, 2, aD_ (ps.mergeSort le)⟩)) :
 callSem P f [.own l ps.length, .fn g [] []] H K := by
 intro S w vals hm hgl hr
 simp only [ag_] at hr
 obtain ⟨x, r, e, rx, y, r2, e2, ry, e3⟩ := hr
 subst e3 e2
 simp only [Rep] at ry
 obtain ⟨vs, us, rfl, r5, r6⟩ := ry
 simp only [ag_] at r5 r6
 have ev : vs = #[] := by cases vs; simp at r5; rw [r5]
 have eu : us = #[] := by cases us; simp at r6; rw [r6]
 subst ev eu
 have e' : vals = #[x, .func (.func g) #[] #[]] := by cases vals; simp at e; rw [e]
 subst e'
 simp only [Rep] at rx
 obtain ⟨_, i, q1, q2, q3⟩ := rx
 obtain ⟨k1, k2, k3, k4⟩ := hm.rows l i _ q1 hl
 have hil : i.len = ps.length := by rw [k1]; exact a0_ ps
 have hml : (ps.mergeSort le).length = ps.length := length_mergeSort _
 by_cases hz : ps = []
 ·subst hz
  have hx : ∃ p cap, x = .slice p 0 cap := by
   rcases q3 (by simpa using hil.symm) with q | ⟨_, p, q⟩
   ·unfold sliceAt at q
    split at q
    ·rw [hil] at q; exact ⟨_, _, q⟩
    ·exact ⟨_, _, q⟩
   ·exact ⟨_, _, q⟩
  obtain ⟨p, cap, hx⟩ := hx
  subst hx
  refine (h0 p cap w).mono ?_
  rintro e w' ⟨rfl, rfl⟩
  refine ⟨_, .tup [], S, H, rfl, a2_.refl _ _, hm, by simp [Rep, ag_], ?_⟩
  have : H.set l ⟨.ty E, 2, aD_ (([] : List (Int × Int)).mergeSort le)⟩ = H := by
   have := ea_ hl
   simpa using this
  rw [this] at hk; exact hk
 ·have hpos : 0 < ps.length := length_pos_iff.2 hz
  have hne : aD_ ps ≠ [] := by intro q; have := congrArg List.length q; simp [aD_] at this; exact hz this
  cases hb : i.blk with
  | none => rw [hb] at k4; exact absurd k4.1 hne
  | some b =>
   rw [hb] at k4
   have hx : x = .slice (some ⟨b, 0, none⟩) ps.length i.cap := by
    rcases q3 (by omega) with q | ⟨q, _⟩
    ·rw [q]; simp only [sliceAt, hb, hil]
    ·rw [hb] at q; cases q
   subst hx
   have k5 := k4.2
   rw [bk_.ty (E := E) rfl] at k5
   obtain ⟨c, j2, j3, j4, j5, j6⟩ := k5
   rw [js_] at j3
   have hblt : b < w.heap.size := (Array.getElem?_eq_some_iff.1 j2).1
   have hH : HoldsK dZ_ 2 w b 0 ps.toArray := by
    intro t ht
    have ht' : t < ps.length * 2 := by simpa using ht
    have htj : t / 2 < ps.length := by omega
    have hc : c[t]? = some ((flatK dZ_ 2 ps.toArray)[t]!) := by
     rw [lg_ ps t ht']
     obtain ⟨h1, h2⟩ := j3 (t / 2) htj
     split
     ·rename_i q
      rw [show t / 2 * 2 = t by omega] at h1
      simpa using h1
     ·rename_i q
      rw [show t / 2 * 2 + 1 = t by omega] at h2
      simpa using h2
    constructor
    ·simp only [World.cell?, j2, Nat.zero_add, hc]
     rfl
    ·simp [World.frozen?, j2]
   refine (hS b 0 i.cap ps w hH hblt hlen).mono ?_
   rintro e w' ⟨rfl, n, os, rfl⟩
   have hsz : i.sz = 2 := k2
   have hset := af_.set (w' := putRowK dZ_ 2 (Go.Sort.ahead w n) b 0 (ps.mergeSort le).toArray) hm (r := ⟨.ty E, 2, aD_ ps⟩) (.inl rfl) q1 hl hb (es' := aD_ (ps.mergeSort le)) (c' := putCells id 0 (flatK dZ_ 2 (ps.mergeSort le).toArray) c)
    (by rw [a0_, a0_, hml])
    (by
      rw [js_]
      intro j hj
      have hjz : j < ps.length := by rw [← hml]; exact hj
      have hcs : i.len ≤ i.cap := by omega
      have hjc : j * 2 + 1 < c.size := by
       have := hsz ▸ j4
       omega
      have h1 := lg_ (ps.mergeSort le) (j * 2) (by omega)
      have h2 := lg_ (ps.mergeSort le) (j * 2 + 1) (by omega)
      rw [if_pos (by omega)] at h1
      rw [if_neg (by omega)] at h2
      simp only [putCells, Array.toList_mapIdx, getElem?_mapIdx, Array.getElem?_toList, Array.getElem?_eq_getElem hjc, Array.getElem?_eq_getElem (show j * 2 < c.size by omega), Option.map_some]
      rw [if_pos ⟨Nat.zero_le _, by simp; omega⟩, if_pos ⟨Nat.zero_le _, by simp; omega⟩]
      simp only [Nat.sub_zero, id_eq, h1, h2]
      simp [show j * 2 / 2 = j by omega, show (j * 2 + 1) / 2 = j by omega])
    (gi_ _) (by simp [putCells, j4])
    (by
      show (w.heap.modify b _)[b]? = _
      rw [Array.getElem?_modify, if_pos rfl, j2]; rfl)
    (fun q hq => by
      show (w.heap.modify b _)[q]? = _
      rw [Array.getElem?_modify, if_neg (Ne.symm hq)])
    (by show (w.heap.modify b _).size = _; simp) rfl rfl rfl
   have hB : Below (putRowK dZ_ 2 (Go.Sort.ahead w n) b 0 (ps.mergeSort le).toArray).heap.size (putRowK dZ_ 2 (Go.Sort.ahead w n) b 0 (ps.mergeSort le).toArray) (grow (putRowK dZ_ 2 (Go.Sort.ahead w n) b 0 (ps.mergeSort le).toArray) os) :=
    ⟨rfl, rfl, rfl, by simp [grow], fun q hq => by
     show (_ ++ os)[q]? = _
     rw [Array.getElem?_append_left hq]⟩
   exact ⟨_, .tup [], S, _, rfl, hset.2.trans (a2_.below hB), hset.1.below hB, by simp [Rep, ag_], hk⟩
def ltE (x y : Int × Int) : Bool := decide (x.1 < y.1) || (decide (x.1 = y.1) && decide (x.2 < y.2))
def leE (x y : Int × Int) : Bool := !(ltE y x)
theorem c0_ (x y : Int × Int) : ltE x y = true ↔ x.1 < y.1 ∨ (x.1 = y.1 ∧ x.2 < y.2) := by simp [ltE]
theorem hG_ (x y : Int × Int) : leE x y = true ↔ x.1 < y.1 ∨ (x.1 = y.1 ∧ x.2 ≤ y.2) := by
 rw [leE, Bool.not_eq_true', ← Bool.not_eq_true, c0_]; omega
def a3_ {α : Type} [DecidableEq α] : List α → List α
 | [] => []
 | [x] => [x]
 | x :: y :: r => if x = y then a3_ (y :: r) else x :: a3_ (y :: r)
theorem gK_ {α : Type} [DecidableEq α] (m : α) : ∀ zs : List α, m ∈ a3_ zs ↔ m ∈ zs
 | [] => by simp [a3_]
 | [x] => by simp [a3_]
 | x :: y :: r => by
  have ih := gK_ m (y :: r)
  simp only [a3_]
  split
  ·rename_i h; subst h; rw [ih]; simp
  ·rw [mem_cons, ih, mem_cons (a := m) (b := x)]
theorem gV_ : ∀ zs : List (Int × Int), zs.Pairwise (fun x y => leE x y = true) → (a3_ zs).Pairwise (fun x y => ltE x y = true)
 | [], _ => by simp [a3_]
 | [x], _ => by simp [a3_]
 | x :: y :: r, h => by
  obtain ⟨h1, h2⟩ := pairwise_cons.1 h
  have ih := gV_ (y :: r) h2
  simp only [a3_]
  split
  ·exact ih
  ·rename_i hne
   refine pairwise_cons.2 ⟨fun a ha => ?_, ih⟩
   have ha' := (gK_ a (y :: r)).1 ha
   have q2 := (hG_ _ _).1 (h1 y (by simp))
   have hxy : ltE x y = true := by
    rw [c0_]
    rcases q2 with q | ⟨q, q'⟩
    ·exact .inl q
    ·refine .inr ⟨q, ?_⟩
     have : x.2 ≠ y.2 := fun e => hne (Prod.ext q e)
     omega
   rcases mem_cons.1 ha' with e | e
   ·subst e; exact hxy
   ·have q3 := (hG_ _ _).1 ((pairwise_cons.1 h2).1 a e)
    rw [c0_] at hxy ⊢
    omega
theorem iI_ : ∀ l1 l2 : List (Int × Int), l1.Pairwise (fun x y => ltE x y = true) → l2.Pairwise (fun x y => ltE x y = true) → (∀ x, x ∈ l1 ↔ x ∈ l2) → l1 = l2
 | [], [], _, _, _ => rfl
 | [], b :: r, _, _, h => by have := (h b).2 (by simp); simp at this
 | a :: r, [], _, _, h => by have := (h a).1 (by simp); simp at this
 | a :: r, b :: q, h1, h2, h => by
  obtain ⟨p1, p2⟩ := pairwise_cons.1 h1
  obtain ⟨q1, q2⟩ := pairwise_cons.1 h2
  have e : a = b := by
   have m1 := (h a).1 (by simp)
   have m2 := (h b).2 (by simp)
   rcases mem_cons.1 m1 with e | e
   ·exact e
   ·rcases mem_cons.1 m2 with e' | e'
    ·exact e'.symm
    ·have h3 := (c0_ _ _).1 (p1 b e'); have h4 := (c0_ _ _).1 (q1 a e); omega
  subst e
  rw [iI_ r q p2 q2 fun x => ?_]
  constructor
  ·intro hx
   rcases mem_cons.1 ((h x).1 (by simp [hx])) with e | e
   ·subst e; have := (c0_ _ _).1 (p1 x hx); omega
   ·exact e
  ·intro hx
   rcases mem_cons.1 ((h x).2 (by simp [hx])) with e | e
   ·subst e; have := (c0_ _ _).1 (q1 x hx); omega
   ·exact e
def gd_ (zs : List (Int × Int)) : List (Int × Int) := zs.mergeSort leE
theorem qX_ (zs : List (Int × Int)) : (gd_ zs).length = zs.length := length_mergeSort _
theorem nQ_ (zs : List (Int × Int)) : (gd_ zs).Pairwise (fun x y => leE x y = true) :=
 pairwise_mergeSort (le := leE) (fun a b c h1 h2 => by rw [hG_] at *; omega) (fun a b => by
  rw [Bool.or_eq_true, hG_, hG_]; omega) zs
theorem qR_ (m : Int × Int) (zs : List (Int × Int)) : m ∈ gd_ zs ↔ m ∈ zs := (mergeSort_perm zs _).mem_iff
section
variable {α : Type} (job : α → Int) (conf : α → α → Bool)
def g5_ (pre : List α) (b : α) : List (Int × Int) := (pre.filter fun a => !decide (job a = job b) && conf a b).map fun a => (job a, job b)
def i5_ (xs : List α) : Nat → List (Int × Int)
 | 0 => []
 | k + 1 => i5_ xs k ++ (match xs[k]? with | some b => g5_ job conf (xs.take k) b | none => [])
def ej_ (f t : Int) : List α → Bool
 | [] => false
 | a :: r => (decide (job a = f) && r.any fun b => decide (job b = t) && conf a b) || ej_ f t r
def gridL : List (Int × Int) := [(1, 1), (1, 2), (1, 3), (1, 4), (2, 1), (2, 2), (2, 3), (2, 4), (3, 1), (3, 2), (3, 3), (3, 4), (4, 1), (4, 2), (4, 3), (4, 4)]
def o7_ (xs : List α) (p : Int × Int) : Bool := !decide (p.1 = p.2) && ej_ job conf p.1 p.2 xs
def cu_ (xs : List α) : List (Int × Int) := gridL.filter (o7_ job conf xs)
theorem o0_ (xs : List α) (p : Int × Int) : ∀ n : Nat, n ≤ xs.length → (p ∈ i5_ job conf xs n ↔ p.1 ≠ p.2 ∧ ∃ i k, ∃ (_ : k < n) (hi : i < k) (hx : k < xs.length), job (xs[i]'(by omega)) = p.1 ∧ job xs[k] = p.2 ∧ conf (xs[i]'(by omega)) xs[k] = true)
 | 0, _ => by
  constructor
  ·intro h; cases h
  ·rintro ⟨_, i, k, hk, _⟩; omega
 | n + 1, h => by
  have ih := o0_ xs p n (by omega)
  have hn : n < xs.length := by omega
  rw [i5_, mem_append, ih, getElem?_eq_getElem hn]
  constructor
  ·rintro (⟨h1, i, k, hk, hi, hx, h2⟩ | h1)
   ·exact ⟨h1, i, k, by omega, hi, hx, h2⟩
   ·obtain ⟨a, h2, rfl⟩ := mem_map.1 h1
    rw [mem_filter] at h2
    obtain ⟨h2, h3⟩ := h2
    obtain ⟨i, hi, rfl⟩ := mem_iff_getElem.1 h2
    have hi' : i < n := by rw [length_take] at hi; exact Nat.lt_of_lt_of_le hi (Nat.min_le_left _ _)
    simp only [Bool.and_eq_true, Bool.not_eq_true', decide_eq_false_iff_not, getElem_take] at h3
    refine ⟨?_, i, n, Nat.lt_succ_self n, hi', hn, ?_, rfl, ?_⟩
    ·simpa [getElem_take] using h3.1
    ·simp [getElem_take]
    ·exact h3.2
  ·rintro ⟨h1, i, k, hk, hi, hx, h2, h3, h4⟩
   by_cases e : k = n
   ·subst e
    refine .inr (mem_map.2 ⟨xs[i], mem_filter.2 ⟨?_, ?_⟩, ?_⟩)
    ·rw [mem_take_iff_getElem]; exact ⟨i, by omega, rfl⟩
    ·simp only [h2, h3, h4, Bool.and_true, Bool.not_eq_true', decide_eq_false_iff_not]; exact h1
    ·rw [h2, h3]
   ·exact .inl ⟨h1, i, k, by omega, hi, hx, h2, h3, h4⟩
theorem l0_ (f t : Int) : ∀ xs : List α, ej_ job conf f t xs = true ↔ ∃ i k, ∃ (hi : i < k) (hx : k < xs.length), job (xs[i]'(by omega)) = f ∧ job xs[k] = t ∧ conf (xs[i]'(by omega)) xs[k] = true
 | [] => by
  constructor
  ·intro h; cases h
  ·rintro ⟨i, k, hi, hx, _⟩; simp at hx
 | a :: r => by
  have ih := l0_ f t r
  rw [ej_, Bool.or_eq_true, ih, Bool.and_eq_true, decide_eq_true_eq, any_eq_true]
  constructor
  ·rintro (⟨h1, b, h2, h3⟩ | ⟨i, k, hi, hx, h⟩)
   ·obtain ⟨k, hk, rfl⟩ := mem_iff_getElem.1 h2
    simp only [Bool.and_eq_true, decide_eq_true_eq] at h3
    exact ⟨0, k + 1, by omega, by simp; omega, h1, by simpa using h3.1, by simpa using h3.2⟩
   ·exact ⟨i + 1, k + 1, by omega, by simp; omega, by simpa using h⟩
  ·rintro ⟨i, k, hi, hx, h1, h2, h3⟩
   obtain ⟨k, rfl⟩ : ∃ k', k = k' + 1 := ⟨k - 1, by omega⟩
   simp only [lc_] at hx
   cases i with
   | zero =>
    refine .inl ⟨h1, r[k], getElem_mem (by omega), ?_⟩
    simp only [getElem_cons_succ] at h2 h3
    simp only [Bool.and_eq_true, decide_eq_true_eq]
    exact ⟨h2, h3⟩
   | succ i => exact .inr ⟨i, k, by omega, by omega, h1, h2, h3⟩
theorem sC_ (p : Int × Int) : p ∈ gridL ↔ (1 ≤ p.1 ∧ p.1 ≤ 4) ∧ (1 ≤ p.2 ∧ p.2 ≤ 4) := by
 constructor
 ·have : ∀ q ∈ gridL, (1 ≤ q.1 ∧ q.1 ≤ 4) ∧ (1 ≤ q.2 ∧ q.2 ≤ 4) := by decide
  exact this p
 ·obtain ⟨a, b⟩ := p
  rintro ⟨⟨h1, h2⟩, h3, h4⟩
  simp only at h1 h2 h3 h4
  have ha : a = 1 ∨ a = 2 ∨ a = 3 ∨ a = 4 := by omega
  have hb : b = 1 ∨ b = 2 ∨ b = 3 ∨ b = 4 := by omega
  rcases ha with rfl | rfl | rfl | rfl <;> rcases hb with rfl | rfl | rfl | rfl <;> decide
theorem pW_ (xs : List α) (hj : ∀ x ∈ xs, 1 ≤ job x ∧ job x ≤ 4) : a3_ (gd_ (i5_ job conf xs xs.length)) = cu_ job conf xs := by
 refine iI_ _ _ (gV_ _ (nQ_ _)) (List.Pairwise.sublist filter_sublist (by decide)) fun p => ?_
 rw [gK_, qR_, o0_ job conf xs p _ (Nat.le_refl _), cu_, mem_filter, sC_, o7_, Bool.and_eq_true, l0_, Bool.not_eq_true', decide_eq_false_iff_not]
 constructor
 ·rintro ⟨h1, i, k, hk, hi, hx, h2, h3, h4⟩
  refine ⟨⟨?_, ?_⟩, h1, i, k, hi, hx, h2, h3, h4⟩
  ·rw [← h2]; exact hj _ (getElem_mem _)
  ·rw [← h3]; exact hj _ (getElem_mem _)
 ·rintro ⟨_, h1, i, k, hi, hx, h⟩
  exact ⟨h1, i, k, hx, hi, hx, h⟩
def e8_ (a n : Nat) : List (Int × Int) := (List.range n).map fun (b : Nat) => ((a : Int) + 1, (b : Int) + 1)
def kr_ (q : Int × Int → Bool) : Nat → List (Int × Int)
 | 0 => []
 | k + 1 => kr_ q k ++ (e8_ k 4).filter q
def c5_ (q : Int × Int → Bool) (k j : Nat) : List (Int × Int) := kr_ q k ++ (e8_ k j).filter q
theorem oe_ (q : Int × Int → Bool) (k j : Nat) : c5_ q k (j + 1) = if q ((k : Int) + 1, (j : Int) + 1) then c5_ q k j ++ [((k : Int) + 1, (j : Int) + 1)] else c5_ q k j := by
 unfold c5_ e8_
 rw [range_succ, map_append, filter_append, ← append_assoc]
 cases e : q ((k : Int) + 1, (j : Int) + 1) <;> simp [e]
theorem pG_ (q : Int × Int → Bool) (k : Nat) : c5_ q (k + 1) 0 = c5_ q k 4 := by
 show (kr_ q k ++ (e8_ k 4).filter q) ++ [] = _
 rw [append_nil]; rfl
theorem pT_ (q : Int × Int → Bool) : c5_ q 4 0 = gridL.filter q := by
 have e : gridL = e8_ 0 4 ++ e8_ 1 4 ++ e8_ 2 4 ++ e8_ 3 4 := by decide
 rw [e, filter_append, filter_append, filter_append]
 show ([] ++ (e8_ 0 4).filter q ++ (e8_ 1 4).filter q ++ (e8_ 2 4).filter q ++ (e8_ 3 4).filter q) ++ [] = _
 rw [append_nil, nil_append]
theorem mU_ (q : Int × Int → Bool) (k j : Nat) : ((e8_ k j).filter q).length ≤ j := by
 refine Nat.le_trans (length_filter_le _ _) ?_
 rw [e8_, length_map, length_range]; exact Nat.le_refl _
theorem lZ_ (q : Int × Int → Bool) : ∀ k : Nat, (kr_ q k).length ≤ 4 * k
 | 0 => Nat.le_refl _
 | k + 1 => by
  have h1 := lZ_ q k
  have h2 := mU_ q k 4
  rw [kr_, la_]; omega
theorem p2_ (q : Int × Int → Bool) (k j : Nat) : (c5_ q k j).length ≤ 4 * k + j := by
 have h1 := lZ_ q k
 have h2 := mU_ q k j
 rw [c5_, la_]; omega
end
end Go.AW
