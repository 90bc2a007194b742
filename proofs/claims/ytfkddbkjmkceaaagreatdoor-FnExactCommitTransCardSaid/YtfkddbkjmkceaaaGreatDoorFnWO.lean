/-
 Contracts of functions. Conditions: as each theorem says.
-/
import Derived.Test.YtfkddbkjmkceaaaGreatDoorFnWB
import Derived.Test.YtfkddbkjmkceaaaGreatDoorAwC
namespace Go.Proofs.YtfkddbkjmkceaaaGreatDoor
open Nat (reduceEqDiff reduceLeDiff)
open List
open Go.AW
set_option linter.unusedVariables false
set_option linter.unusedSimpArgs false
set_option maxRecDepth 4000
open Tryz (prog)
theorem gx_ {h0 hn : List Row} {x1 x2 y1 y2 : Row} {k : Int} {n v : ByteArray} {s : List ByteArray} {l : Nat} (hf : dw_ (h0 ++ [y1, y2]).length ((h0 ++ [y1, y2]) ++ hn) (.own l s.length) (.list 0 1 (s.map am_))) :
 dw_ h0.length (h0 ++ x1 :: x2 :: hn) (.agg [.val (.int .i64 k), .val (.string n), .own l s.length, .val (.string v)]) (.agg (az_.cells ⟨k, n, s, v⟩)) := by
 have hb := (hf.b.keep (H' := h0 ++ x1 :: x2 :: hn) fun l q1 q2 => z3_ q1).widen (lo' := h0.length) (hi' := (h0 ++ x1 :: x2 :: hn).length) (by simp) (by simp)
 exact (ay_.agg (ak_.val _ (ak_.val _ (ak_.cons hb (ak_.val _ (ak_.nil _ _ _)) ⟨by simp, Nat.le_refl _⟩)))).fresh
def c99 : LC :=
 .q [.o [.bx 1 44 0, .s 2 (.alloc 88 (.agg #[.int .i64 0, .string ⟨#[]⟩, .slice none 0 0, .string ⟨#[]⟩]))], .o [.ki 3 1], .q [.o [.fa 4 0 1, .ln 5 4, .bk 6 .eql false 5 3], .k 6 (.o [.ki 3 2]) .skip], .gops [.m 7 3, .fa
 8 1 1, .ln 9 8, .fa 10 2 1, .ln 11 10, .fa 13 3 1, .ln 14 13] [(.c1 12 102 11, [.m 7 3, .fa 8 1 1, .ln 9 8, .fa 13 3 1, .ln 14 13]), (.s 15 (.build (.agg #[.int .i64 0, .string ⟨#[]⟩, .slice none 0 0, .string ⟨#[]⟩])
 [(0, 1), (1, 1), (2, 1), (3, 1)] [(0, .tmp 7), (1, .tmp 9), (2, .tmp 12), (3, .tmp 14)]), []), (.st 4 2 15, [])], .ret]
def vS_ : LF := ⟨1, 16, c99, [.cell 2 (some 4)]⟩
theorem Dg_ : au_ Tryz.prog Tryz.f99 vS_ := ah_
def c85 : LC :=
 .q [.o [.bx 1 44 0, .s 2 (.alloc 88 (.agg #[.int .i64 0, .string ⟨#[]⟩, .slice none 0 0, .string ⟨#[]⟩]))], .o [.ki 3 1], .q [.o [.fa 4 0 1, .ln 5 4, .bk 6 .eql false 5 3], .k 6 (.o [.ki 3 2]) .skip], .gops [.m 7 3, .fa
 8 1 1, .ln 9 8, .fa 10 2 1, .ln 11 10, .fa 13 3 1, .ln 14 13] [(.c1 12 86 11, [.m 7 3, .fa 8 1 1, .ln 9 8, .fa 13 3 1, .ln 14 13]), (.s 15 (.build (.agg #[.int .i64 0, .string ⟨#[]⟩, .slice none 0 0, .string ⟨#[]⟩]) [(0,
 1), (1, 1), (2, 1), (3, 1)] [(0, .tmp 7), (1, .tmp 9), (2, .tmp 12), (3, .tmp 14)]), []), (.st 4 2 15, [])], .ret]
def uJ_ : LF := ⟨1, 16, c85, [.cell 2 (some 4)]⟩
theorem DF_ : au_ Tryz.prog Tryz.f85 uJ_ := ah_
theorem gO_ (x : ab_) (hx : ab_.sz x ≤ 1048576) : aQ_ Tryz.prog 99 [.agg (ab_.cells x)] (.agg (az_.cells (c6_ x))) (fun a => ∃ l, a = .agg [.val (.int .i64 (c6_ x).Kind), .val (.string x.Name), .own l x.Subs.length, .val (.string x.Value)]) := by
 refine dn_ mixed Tryz.func99 Dg_ rfl (fun h0 => ?_)
 have h2 := aA_ (ab_.sz_Subs hx)
 by_cases k3 : x.Kind = 3
 ·simp (disch := omega) only [vS_, c99, ab_.cells, k3, ag_, go_sem, reduceEqDiff, Nat.reduceAdd, ↓reduceIte]
  refine b5_ x.Subs h2 _ _ (fun av hn hf hq => ?_)
  obtain ⟨l, rfl⟩ := hq
  simp (disch := omega) only [bE_, Option.map_some, cF_, append_assoc, go_sem, reduceEqDiff, Nat.reduceAdd, reduceLeDiff, ↓reduceIte]
  rw [sb_ k3]
  exact ⟨_, rfl, gx_ hf, _, rfl⟩
 ·have k3' : (x.Kind = 3) = False := eq_false k3
  simp (disch := omega) only [vS_, c99, ab_.cells, k3', ag_, go_sem, reduceEqDiff, Nat.reduceAdd, ↓reduceIte]
  refine b5_ x.Subs h2 _ _ (fun av hn hf hq => ?_)
  obtain ⟨l, rfl⟩ := hq
  simp (disch := omega) only [bE_, Option.map_some, cF_, append_assoc, go_sem, reduceEqDiff, Nat.reduceAdd, reduceLeDiff, ↓reduceIte]
  rw [th_ k3]
  exact ⟨_, rfl, gx_ hf, _, rfl⟩
theorem gs_ (x : ab_) (hx : ab_.sz x ≤ 1048576) : aQ_ Tryz.prog 85 [.agg (ab_.cells x)] (.agg (az_.cells (c6_ x))) (fun a => ∃ l, a = .agg [.val (.int .i64 (c6_ x).Kind), .val (.string x.Name), .own l x.Subs.length, .val (.string x.Value)]) := by
 refine dn_ mixed Tryz.func85 DF_ rfl (fun h0 => ?_)
 have h2 := aA_ (ab_.sz_Subs hx)
 by_cases k3 : x.Kind = 3
 ·simp (disch := omega) only [uJ_, c85, ab_.cells, k3, ag_, go_sem, reduceEqDiff, Nat.reduceAdd, ↓reduceIte]
  refine d9_ x.Subs h2 _ _ (fun av hn hf hq => ?_)
  obtain ⟨l, rfl⟩ := hq
  simp (disch := omega) only [bE_, Option.map_some, cF_, append_assoc, go_sem, reduceEqDiff, Nat.reduceAdd, reduceLeDiff, ↓reduceIte]
  rw [sb_ k3]
  exact ⟨_, rfl, gx_ hf, _, rfl⟩
 ·have k3' : (x.Kind = 3) = False := eq_false k3
  simp (disch := omega) only [uJ_, c85, ab_.cells, k3', ag_, go_sem, reduceEqDiff, Nat.reduceAdd, ↓reduceIte]
  refine d9_ x.Subs h2 _ _ (fun av hn hf hq => ?_)
  obtain ⟨l, rfl⟩ := hq
  simp (disch := omega) only [bE_, Option.map_some, cF_, append_assoc, go_sem, reduceEqDiff, Nat.reduceAdd, reduceLeDiff, ↓reduceIte]
  rw [th_ k3]
  exact ⟨_, rfl, gx_ hf, _, rfl⟩
def cD_ (xs : List ab_) : List az_ := (xs.filter bJ_).map c6_
theorem hY_ {xs : List ab_} {k : Nat} (hlt : k < xs.length) (h : bJ_ xs[k] = true) : cD_ (xs.take (k + 1)) = cD_ (xs.take k) ++ [c6_ xs[k]] := by
 unfold cD_; rw [take_succ_eq_append_getElem hlt, filter_append, map_append]; simp only [filter_cons, filter_nil, h, if_true, map_cons, map_nil]
theorem h1_ {xs : List ab_} {k : Nat} (hlt : k < xs.length) (h : bJ_ xs[k] = false) : cD_ (xs.take (k + 1)) = cD_ (xs.take k) := by
 unfold cD_; rw [take_succ_eq_append_getElem hlt, filter_append, map_append]; simp only [filter_cons, filter_nil, h, Bool.false_eq_true, if_false, map_nil, append_nil]
theorem oA_ (xs : List ab_) (k : Nat) : (cD_ (xs.take k)).length ≤ k := by
 simp only [cD_, length_map]
 exact Nat.le_trans (length_filter_le _ _) (by simp; omega)
def c62 : LC :=
 .q [.o [.nl 2], .o [.s 6 (.buildSlice 88 4 (.agg #[.int .i64 0, .string ⟨#[]⟩, .slice none 0 0, .string ⟨#[]⟩]) 0 []), .m 3 6], .q [.o [.m 7 0, .ll 8 7, .ki 9 0], .block 0 (.loop (.q [.o [.bb 10 .lss false 9 8], .k 10
 .skip (.exit 0), .block 1 (.q [.o [.ia 11 5 7 9, .ld 12 5 11, .s 5 (.alloc 44 (.agg #[.int .i64 0, .string ⟨#[]⟩, .slice none 0 0, .string ⟨#[]⟩, .int .i64 0])), .st 5 5 12], .o [.ld 13 5 5, .c1 14 97 13], .k 14 (.o [.m
 15 3, .ld 16 5 5, .c1 17 99 16, .s 18 (.buildSlice 88 4 (.agg #[.int .i64 0, .string ⟨#[]⟩, .slice none 0 0, .string ⟨#[]⟩]) 1 [(0, .tmp 17)]), .ap 19 88 4 64 15 18, .m 3 19]) .skip]), .o [.bk 20 .add false 9 1, .m 9
 20]]))], .o [.m 21 3, .m 2 21], .ret]
def AL_ : LF := ⟨1, 22, c62, [.tmp 2]⟩
theorem Du_ : au_ Tryz.prog Tryz.f62 AL_ := ah_
def c59 : LC :=
 .q [.o [.nl 2], .o [.s 5 (.buildSlice 88 4 (.agg #[.int .i64 0, .string ⟨#[]⟩, .slice none 0 0, .string ⟨#[]⟩]) 0 []), .m 3 5], .q [.o [.ki 4 0], .block 0 (.loop (.q [.q [.o [.m 6 4, .m 7 0, .ll 8 7, .bb 9 .lss false 6
 8], .k 9 .skip (.exit 0)], .block 1 (.q [.o [.m 12 0, .m 13 4, .ia 14 5 12 13, .ld 15 5 14, .c1 16 36 15], .k 16 (.o [.m 17 3, .m 18 0, .m 19 4, .ia 20 5 18 19, .ld 21 5 20, .c1 22 85 21, .s 23 (.buildSlice 88 4 (.agg
 #[.int .i64 0, .string ⟨#[]⟩, .slice none 0 0, .string ⟨#[]⟩]) 1 [(0, .tmp 22)]), .ap 24 88 4 64 17 23, .m 3 24]) .skip]), .o [.m 10 4, .bk 11 .add false 10 1, .m 4 11]]))], .o [.m 25 3, .m 2 25], .ret]
def A4_ : LF := ⟨1, 26, c59, [.tmp 2]⟩
theorem D7_ : au_ Tryz.prog Tryz.f59 A4_ := ah_
theorem jJ_ (xs : List ab_) (hs : an_ ab_.sz xs ≤ 1048576) : aQ_ Tryz.prog 59 [.list 0 5 (xs.map ab_.cells)] (.list 0 4 ((cD_ xs).map az_.cells)) (fun a => ∃ l, a = .own l (cD_ xs).length) := by
 refine bM_ mixed Tryz.func59 D7_ rfl (fun h0 => ?_)
 have hl := aA_ hs
 have hm : ∀ e ∈ xs, ab_.sz e ≤ 1048576 := fun e he => by have := bP_ (f := ab_.sz) he; omega
 simp (disch := omega) only [A4_, c59, go_sem, ↓reduceIte]
 refine aP_ (fun n t h => ∃ (k : Nat) (done : List (List AV)), t 0 = .list 0 5 (xs.map ab_.cells) ∧ t 3 = .own h0.length done.length ∧ t 4 = .val (.int .i64 k) ∧ aD_ h0 h ∧ cb_ h0.length h 88 4 done ((cD_ (xs.take k)).map az_.cells) ∧ done.length = (cD_ (xs.take k)).length ∧ n = xs.length - k ∧ k ≤ xs.length) xs.length ?_ ?_
 ·exact ⟨0, [], rfl, rfl, rfl, aD_.app _ _, cb_.zero (by rw [b4_]; rfl), rfl, rfl, Nat.zero_le _⟩
 rintro J hJ n t h ⟨k, done, t0, t3, tk, hM, hG, hd, rfl, hk⟩
 have o3 := hG.row
 by_cases hlt : k < xs.length
 ·have w3 := fun l => as_ (l := l) o3
  have ml := hM.len
  have gl := hG.lt
  have hcl := oA_ xs k
  have hG' := fun r : Row => hG.more (H' := h ++ [r]) (by simp) (fun y q1 q2 => getElem?_append_left q2)
  simp (disch := omega) only [t0, t3, tk, hlt, ab_.cells, ag_, go_sem, reduceEqDiff, Nat.reduceAdd, reduceCtorEq, ↓reduceIte]
  refine aa_.call (iH_ xs[k] _) ?_
  by_cases hT : bJ_ xs[k] = true
  ·simp (disch := omega) only [t0, t3, tk, hT, ab_.cells, ag_, go_sem, reduceEqDiff, Nat.reduceAdd, reduceCtorEq, ↓reduceIte]
   refine bk_ (gs_ xs[k] (hm _ (getElem_mem hlt))) (fun av H1 m1 F1 q1 => ?_)
   obtain ⟨l, rfl⟩ := q1
   have p3 := m1.at (o3)
   have v3 := fun l => as_ (l := l) p3
   have l1 := m1.len
   skip
   simp (disch := omega) only [tk, v3, set_append_left, go_sem, reduceEqDiff, Nat.reduceAdd, reduceLeDiff, ↓reduceIte]
   refine ⟨by omega, by omega, xs.length - (k + 1), by omega, hJ _ _ _ ⟨k + 1, done ++ [[.val (.int .i64 (c6_ xs[k]).Kind), .val (.string xs[k].Name), .own l xs[k].Subs.length, .val (.string xs[k].Value)]], by simp [upd, t0], by simp [upd], by simp [upd], ?_, ?_, ?_, rfl, by omega⟩⟩
   ·exact (((hM).trans m1).set (by omega)).add _
   ·rw [hY_ hlt hT, map_append]
    refine (hG).step F1.tree.unagg m1.len (fun y q1 q2 => m1.kept y q2) (by simp) (fun y q1 q2 => ?_) ?_
    ·rw [getElem?_append_left (by simpa using q2), getElem?_set_ne (by omega)]
    ·exact as_ (fb_ p3 _)
   ·rw [hY_ hlt hT]; simp [hd]
  ·have hT' : bJ_ xs[k] = false := by simpa using hT
   simp (disch := omega) only [t0, t3, tk, hT', ab_.cells, ag_, go_sem, reduceEqDiff, Nat.reduceAdd, reduceCtorEq, ↓reduceIte]
   refine ⟨xs.length - (k + 1), by omega, hJ _ _ _ ⟨k + 1, done, by simp [upd, t0], by simp [upd, t3], by simp [upd], hM, ?_, ?_, rfl, by omega⟩⟩
   ·rw [h1_ hlt hT']
    exact hG
   ·rw [h1_ hlt hT']; exact hd
 ·simp (disch := omega) only [t0, t3, tk, hlt, ag_, go_sem, reduceEqDiff, reduceCtorEq, ↓reduceIte]
  have e : k = xs.length := by omega
  subst e
  rw [take_length] at hG hd
  exact ⟨⟨hM, hG.done rfl⟩, _, by rw [hd]⟩
theorem j7_ (xs : List ab_) (hs : an_ ab_.sz xs ≤ 1048576) : aQ_ Tryz.prog 62 [.list 0 5 (xs.map ab_.cells)] (.list 0 4 ((cD_ xs).map az_.cells)) (fun a => ∃ l, a = .own l (cD_ xs).length) := by
 refine bM_ mixed Tryz.func62 Du_ rfl (fun h0 => ?_)
 have hl := aA_ hs
 have hm : ∀ e ∈ xs, ab_.sz e ≤ 1048576 := fun e he => by have := bP_ (f := ab_.sz) he; omega
 simp (disch := omega) only [AL_, c62, go_sem, reduceCtorEq, ↓reduceIte]
 refine aP_ (fun n t h => ∃ (k : Nat) (done : List (List AV)), t 7 = .list 0 5 (xs.map ab_.cells) ∧ t 8 = .val (.int .i64 xs.length) ∧ t 3 = .own h0.length done.length ∧ t 9 = .val (.int .i64 k) ∧ aD_ h0 h ∧ cb_ h0.length h 88 4 done ((cD_ (xs.take k)).map az_.cells) ∧ done.length = (cD_ (xs.take k)).length ∧ n = xs.length - k ∧ k ≤ xs.length) xs.length ?_ ?_
 ·exact ⟨0, [], rfl, rfl, rfl, rfl, aD_.app _ _, cb_.zero (by rw [b4_]; rfl), rfl, rfl, Nat.zero_le _⟩
 rintro J hJ n t h ⟨k, done, t7, t8, t3, tk, hM, hG, hd, rfl, hk⟩
 have o3 := hG.row
 by_cases hlt : k < xs.length
 ·have w3 := fun l => as_ (l := l) o3
  have ml := hM.len
  have gl := hG.lt
  have hcl := oA_ xs k
  have hG' := fun r : Row => hG.more (H' := h ++ [r]) (by simp) (fun y q1 q2 => getElem?_append_left q2)
  simp (disch := omega) only [t7, t8, t3, tk, hlt, ab_.cells, ag_, go_sem, reduceEqDiff, Nat.reduceAdd, ↓reduceIte]
  refine aa_.call (iO_ xs[k] _) ?_
  by_cases hT : bJ_ xs[k] = true
  ·simp (disch := omega) only [t3, tk, hT, ag_, go_sem, reduceEqDiff, Nat.reduceAdd, ↓reduceIte]
   refine bk_ (gO_ xs[k] (hm _ (getElem_mem hlt))) (fun av H1 m1 F1 q1 => ?_)
   obtain ⟨l, rfl⟩ := q1
   have p3 := m1.at (as_ o3)
   have v3 := fun l => as_ (l := l) p3
   have l1 := m1.len
   simp only [la_, lc_, ln_] at l1
   simp (disch := omega) only [tk, v3, set_append_left, go_sem, reduceEqDiff, Nat.reduceAdd, reduceLeDiff, ↓reduceIte]
   refine ⟨by omega, by omega, xs.length - (k + 1), by omega, hJ _ _ _ ⟨k + 1, done ++ [[.val (.int .i64 (c6_ xs[k]).Kind), .val (.string xs[k].Name), .own l xs[k].Subs.length, .val (.string xs[k].Value)]], by simp [upd, t7], by simp [upd, t8], by simp [upd], by simp [upd], ?_, ?_, ?_, rfl, by omega⟩⟩
   ·exact (((hM.add _).trans m1).set (by omega)).add _
   ·rw [hY_ hlt hT, map_append]
    refine (hG' _).step F1.tree.unagg m1.len (fun y q1 q2 => m1.kept y q2) (by simp) (fun y q1 q2 => ?_) ?_
    ·rw [getElem?_append_left (by simpa using q2), getElem?_set_ne (by omega)]
    ·exact as_ (fb_ p3 _)
   ·rw [hY_ hlt hT]; simp [hd]
  ·have hT' : bJ_ xs[k] = false := by simpa using hT
   simp (disch := omega) only [t3, tk, hT', ag_, go_sem, reduceEqDiff, Nat.reduceAdd, ↓reduceIte]
   refine ⟨xs.length - (k + 1), by omega, hJ _ _ _ ⟨k + 1, done, by simp [upd, t7], by simp [upd, t8], by simp [upd, t3], by simp [upd], hM.add _, ?_, ?_, rfl, by omega⟩⟩
   ·rw [h1_ hlt hT']
    exact hG' _
   ·rw [h1_ hlt hT']; exact hd
 ·simp (disch := omega) only [t7, t8, t3, tk, hlt, ag_, go_sem, reduceEqDiff, Nat.reduceAdd, ↓reduceIte]
  have e : k = xs.length := by omega
  subst e
  rw [take_length] at hG hd
  exact ⟨⟨hM, hG.done rfl⟩, _, by rw [hd]⟩
theorem tJ_ : ∀ (xs : List ab_), an_ az_.sz (cD_ xs) ≤ an_ ab_.sz xs
 | [] => Nat.le_refl _
 | x :: xs => by
  have ih := tJ_ xs
  have e1 : an_ ab_.sz (x :: xs) = an_ ab_.sz xs + 1 + ab_.sz x := by simp only [an_, b1_, lc_]; omega
  by_cases hT : bJ_ x = true
  ·have e2 : cD_ (x :: xs) = c6_ x :: cD_ xs := by simp [cD_, hT]
   have e3 : az_.sz (c6_ x) ≤ ab_.sz x := Nat.le_refl (x.Name.size + an_ ByteArray.size x.Subs + x.Value.size)
   rw [e2, e1]
   simp only [an_, b1_, lc_] at ih ⊢
   omega
  ·have e2 : cD_ (x :: xs) = cD_ xs := by simp [cD_, hT]
   rw [e2, e1]; omega
theorem pM_ {x : ad_} {c : az_} (h : c.Kind = 1) : (b6_ x c).2 = dy_ x c.Name c.Subs ∧ (dy_ x c.Name c.Subs = 0 → (b6_ x c).1 = ⟨dJ_ x.Nodes c.Name c.Subs c.Value⟩) := by
 unfold b6_ dy_
 rw [if_pos h]
 split
 ·exact ⟨rfl, fun _ => rfl⟩
 ·exact ⟨rfl, fun q => by cases q⟩
def c98 : LC :=
 .q [.o [.bx 3 88 1, .ki 4 0], .q [.o [.fa 5 0 3, .ln 6 5, .bk 7 .eql false 6 1], .k 7 (.q [.o [.m 8 0, .fa 9 1 3, .ln 10 9, .fa 11 2 3, .ln 12 11, .fa 13 3 3, .ln 14 13, .s 15 (.call 136 [.tmp 8, .tmp 10, .tmp 12, .tmp
 14]), .m 4 15], .ret]) .skip], .o [.m 16 0, .fa 17 1 3, .ln 18 17, .fa 19 2 3, .ln 20 19, .c3 21 137 16 18 20], .o [.ki 4 0], .ret]
def v7_ : LF := ⟨2, 22, c98, [.tmp 4]⟩
theorem C1_ : au_ Tryz.prog Tryz.f98 v7_ := ah_
theorem jS_ {L lo : Nat} {H0 H : List Row} {x : ad_} {sa : AV} (B : eg_ L lo H0 x) (mH : aD_ H0 H) (c : az_) (hx : aW_ x = true) (hs : an_ ByteArray.size c.Subs ≤ 1048576) (hsh : sa = .list 0 1 (c.Subs.map am_) ∨ ∃ ls k, sa = .own ls k) (hsa : ∀ H' : List Row, (∀ y, H0.length ≤ y → y < H.length → H'[y]? = H[y]?) → bh_ H' sa (.list 0 1 (c.Subs.map am_))) {K : AV → List Row → Prop}
 (hk : ∀ H' : List Row, H.length ≤ H'.length → (∀ y, y < lo → H'[y]? = H[y]?) → ((b6_ x c).2 = 0 → eg_ L lo H' (b6_ x c).1) → K (.val (.int .i64 (b6_ x c).2)) H') :
 callSem Tryz.prog 98 [.ptr L 1 0 0, .agg [.val (.int .i64 c.Kind), .val (.string c.Name), sa, .val (.string c.Value)]] H K := by
 refine bg_ mixed Tryz.func98 C1_ (bT_ rfl ?_)
 have hlow := B.low
 have mlen := mH.len
 have csa : sa.cell = true := by rcases hsh with rfl | ⟨_, _, rfl⟩ <;> rfl
 have csa' := csa
 simp only [AV.cell, Value.oneCell'] at csa'
 have hsa' : ∀ r : Row, ∀ H' : List Row, (∀ y, H0.length ≤ y → y < (H ++ [r]).length → H'[y]? = (H ++ [r])[y]?) → bh_ H' sa (.list 0 1 (c.Subs.map am_)) := fun r H' h => hsa H' fun y q1 q2 => by rw [h y q1 (by simp; omega)]; exact aE_ q2
 by_cases hk1 : c.Kind = 1
 ·have hk1' : (c.Kind = 1) = True := eq_true hk1
  obtain ⟨e1, e2⟩ := pM_ (x := x) hk1
  rw [e1] at hk
  simp (disch := (first | omega | (simp only [ls_, la_, lc_, ln_]; first | done | omega))) only [aU_, go_sem, Nat.reduceEqDiff, Nat.reduceAdd, reduceCtorEq, ↓reduceIte, v7_, c98, csa', hk1']
  refine lI_ B (mH.add _) c.Name c.Subs c.Value hx hs (hsa' _) (fun H' k1 k2 k3 => ?_)
  simp (disch := (first | omega | (simp only [ls_, la_, lc_, ln_]; first | done | omega))) only [go_sem, ↓reduceIte]
  exact hk H' (by simp at k1; omega) (fun y q => by rw [k2 y q]; exact aE_ (by omega)) (fun q => by rw [e2 q]; exact k3 q)
 ·have hk1' : (c.Kind = 1) = False := eq_false hk1
  have e1 : b6_ x c = (⟨cR_ x.Nodes c.Name c.Subs⟩, 0) := by rw [b6_, if_neg hk1]
  rw [e1] at hk
  simp (disch := (first | omega | (simp only [ls_, la_, lc_, ln_]; first | done | omega))) only [aU_, go_sem, Nat.reduceEqDiff, Nat.reduceAdd, reduceCtorEq, ↓reduceIte, v7_, c98, csa', hk1']
  obtain ⟨l, m, ts, b0, d⟩ := B
  have hl0 := b0.at'.lt
  have hr : ∀ r : Row, (H ++ [r]).length = H.length + 1 := fun r => by simp
  have b := fun r : Row => b0.more (mH.add [r])
  obtain ⟨a, o, hS⟩ := (b _).box
  have hlo := (b0.at'.lows l mem_cons_self).1
  refine lz_ (lo := lo) (l := L) (N := 1) (k := 0) (off := 0) (pre := []) (post := []) (es := [[a]]) (a := a) c.Name c.Subs hsh (fun H' hH => hsa' _ H' fun y q1 q2 => hH y q2 (by omega)) (ad_.sz_Nodes (cJ_ hx)) o rfl rfl rfl hS (b _).at' b0.out d (fun H' m' us' k1 k2 k3 k4 k5 k6 k7 => ?_)
  simp (disch := (first | omega | (simp only [ls_, la_, lc_, ln_]; first | done | omega))) only [go_sem, ↓reduceIte]
  exact hk H' (by simp at k1; omega) (fun y q => by rw [k2 y (by simp; omega) (by omega) (by omega)]; exact aE_ (by omega)) (fun _ => ⟨l, m', us', ⟨⟨_, k7, .inl rfl⟩, k3, fun q => b0.out (k5 L q), b0.lt⟩, k6⟩)
def c47 : LC :=
 .q [.o [.bx 3 44 1, .ki 4 0], .q [.o [.ld 5 5 3, .c1 6 97 5], .k 6 (.q [.o [.m 7 0, .ld 8 5 3, .c1 9 99 8, .c2 10 98 7 9, .m 4 10], .ret]) .skip], .q [.gops [.m 11 0, .nc 12 11, .ld 13 1 12, .ld 14 5 3, .ld 16 5 3] [(.c2
 15 101 13 14, [.ld 16 5 3]), (.c2 17 100 15 16, []), (.nt 18 17, [])], .k 18 (.q [.o [.ki 4 5], .ret]) .skip], .o [.ki 4 0], .ret]
def CN_ : LF := ⟨2, 19, c47, [.tmp 4]⟩
theorem Dt_ : au_ Tryz.prog Tryz.f47 CN_ := rD_
theorem kJ_ {L lo : Nat} {H : List Row} {x : ad_} (B : eg_ L lo H x) (e : ab_) (hx : aW_ x = true) (hn : bD_ e = true) (hz : ab_.sz e ≤ 1048576) {K : AV → List Row → Prop}
 (hk : ∀ H' : List Row, H.length ≤ H'.length → (∀ y, y < lo → H'[y]? = H[y]?) → ((bR_ x e).2 = 0 → eg_ L lo H' (bR_ x e).1) → K (.val (.int .i64 (bR_ x e).2)) H') :
 callSem Tryz.prog 47 [.ptr L 1 0 0, .agg (ab_.cells e)] H K := by
 refine bg_ mixed Tryz.func47 Dt_ (bT_ rfl ?_)
 have hlow := B.low
 simp (disch := (first | omega | (simp only [ls_, la_, lc_, ln_]; first | done | omega))) only [aU_, go_sem, Nat.reduceEqDiff, Nat.reduceAdd, ↓reduceIte, CN_, c47, ab_.cells]
 refine aa_.call (iO_ e _) ?_
 cases ht : bJ_ e
 case true =>
  have hA : bR_ x e = b6_ x (c6_ e) := by rw [bR_, if_pos ht]
  rw [hA] at hk
  have hch : aQ_ Tryz.prog 99 [.agg [.val (.int .i64 e.Kind), .val (.string e.Name), .list 0 1 (e.Subs.map am_), .val (.string e.Value), .val (.int .i64 e.N)]] (.agg (az_.cells (c6_ e))) (fun a => ∃ l, a = .agg [.val (.int .i64 (c6_ e).Kind), .val (.string e.Name), .own l e.Subs.length, .val (.string e.Value)]) := gO_ e hz
  simp (disch := (first | omega | (simp only [ls_, la_, lc_, ln_]; first | done | omega))) only [aU_, go_sem, Nat.reduceEqDiff, Nat.reduceAdd, reduceCtorEq, ↓reduceIte]
  refine bk_ hch (fun av H1 m1 F1 q1 => ?_)
  obtain ⟨l, rfl⟩ := q1
  have l1 := m1.len
  simp only [la_, lc_, ln_] at l1
  have F2 := F1.tree.unagg.rest.rest.head
  simp (disch := (first | omega | (simp only [ls_, la_, lc_, ln_]; first | done | omega))) only [go_sem, Nat.reduceEqDiff, ↓reduceIte]
  refine jS_ B ((aD_.app H _).trans m1) (c6_ e) hx (ab_.sz_Subs hz) (.inr ⟨l, _, rfl⟩) (fun H' h => (F2.keep fun y q1 q2 => h y (by simp at q1; omega) q2).arg) (fun H' k1 k2 k3 => ?_)
  simp (disch := (first | omega | (simp only [ls_, la_, lc_, ln_]; first | done | omega))) only [go_sem, ↓reduceIte]
  refine hk H' (by omega) (fun y q => ?_) k3
  rw [k2 y q, m1.kept y (by simp; omega)]; exact aE_ (by omega)
 case false =>
  obtain ⟨a, o, ca, hF⟩ := B.arg
  have hr := pq_ hn ht
  have hA : bR_ x e = if bL_ (bu_ x e) e = true then (x, 0) else (⟨[]⟩, 5) := by rw [bR_, if_neg (by rw [ht]; simp)]
  have hag : aQ_ Tryz.prog 101 [.agg (ad_.cells x), .agg [.val (.int .i64 e.Kind), .val (.string e.Name), .list 0 1 (e.Subs.map am_), .val (.string e.Value), .val (.int .i64 e.N)]] (.agg (ab_.cells (bu_ x e))) (gS_ e) := jH_ x e (cJ_ hx) hz hx hn hr
  have hse : ∀ H, aa_ Tryz.prog 100 [.agg (ab_.cells (bu_ x e)), .agg [.val (.int .i64 e.Kind), .val (.string e.Name), .list 0 1 (e.Subs.map am_), .val (.string e.Value), .val (.int .i64 e.N)]] H (.val (.bool (bL_ (bu_ x e) e))) := fun H => lN_ (bu_ x e) e (lR_ hx hn hz) H
  simp (disch := (first | omega | (simp only [ls_, la_, lc_, ln_]; first | done | omega))) only [aE_, aU_, go_sem, Nat.reduceEqDiff, Nat.reduceAdd, reduceCtorEq, ↓reduceIte, o]
  refine eH_ hag (bc_.cons (hF.keep fun y _ q => aE_ q).arg.any (bc_.cons (ca_.same rfl) bc_.nil)) (fun av H1 m1 F1 q1 => ?_)
  obtain ⟨l, v, k, rfl⟩ := q1
  have l1 := m1.len
  simp only [la_, lc_, ln_] at l1
  have o1 := m1.at (jA_ H _)
  have B1 := B.more ((aD_.app H _).trans m1)
  simp (disch := (first | omega | (simp only [ls_, la_, lc_, ln_]; first | done | omega))) only [go_sem, Nat.reduceEqDiff, Nat.reduceAdd, ↓reduceIte, o1]
  refine aa_.call (aa_.anyR rfl hse (bc_.cons F1.tree.arg.any (bc_.cons (ca_.same rfl) bc_.nil))) ?_
  cases hq : bL_ (bu_ x e) e
  ·rw [hA, if_neg (by rw [hq]; simp)] at hk
   simp (disch := (first | omega | (simp only [ls_, la_, lc_, ln_]; first | done | omega))) only [go_sem, ↓reduceIte]
   exact hk H1 (by omega) (fun y q => by rw [m1.kept y (by simp; omega)]; exact aE_ (by omega)) (fun q => by cases q)
  ·rw [hA, if_pos hq] at hk
   simp (disch := (first | omega | (simp only [ls_, la_, lc_, ln_]; first | done | omega))) only [go_sem, ↓reduceIte]
   exact hk H1 (by omega) (fun y q => by rw [m1.kept y (by simp; omega)]; exact aE_ (by omega)) (fun _ => B1)
theorem eM_ {t : Nat → AV} {h : List Row} (a s u : Nat) (n : Option Nat) (K : AV → List Row → Prop) : cB_ [.cell a n, .tmp s, .tmp u] K .ret t h = match at_ t h (.load n (.tmp a)) with | some av => K (.tup [av, t s, t u]) h | none => False := by
 simp only [cB_, dx_, mapM_cons, mapM_nil]
 cases at_ t h (.load n (.tmp a)) <;> simp [cY_]
abbrev nG_ (p : ad_ × Int × Int) : AV := .tup [.agg (ad_.cells p.1), .val (.int .i64 p.2.1), .val (.int .i64 p.2.2)]
def t1_ (a : AV) : Prop := ∃ b, b.cell = true ∧ ∃ v v2, a = .tup [.agg [b], .val (.int .i64 v), .val (.int .i64 v2)]
abbrev fg_ (p : ad_ × Int) : AV := .tup [.agg (ad_.cells p.1), .val (.int .i64 p.2)]
def h8_ (a : AV) : Prop := ∃ b, b.cell = true ∧ ∃ v, a = .tup [.agg [b], .val (.int .i64 v)]
section
variable {lo hi : Nat} {H : List Row} {b : AV} {x : ad_}
theorem pg_ (hF : ay_ lo hi H (.agg [b]) (.agg (ad_.cells x))) (h : lo ≤ hi) (v v2 : Int) : ay_ lo hi H (.tup [.agg [b], .val (.int .i64 v), .val (.int .i64 v2)]) (nG_ (x, v, v2)) :=
 ay_.tup (ak_.cons hF (ak_.val _ (ak_.val _ (ak_.nil _ _ _))) ⟨h, Nat.le_refl _⟩)
theorem hT_ (hF : ay_ lo hi H (.agg [b]) (.agg (ad_.cells x))) (h : lo ≤ hi) (v : Int) : ay_ lo hi H (.tup [.agg [b], .val (.int .i64 v)]) (fg_ (x, v)) :=
 ay_.tup (ak_.cons hF (ak_.val _ (ak_.nil _ _ _)) ⟨h, Nat.le_refl _⟩)
theorem k0_ (h : lo ≤ hi) : ay_ lo hi H (.agg [.val (.slice none 0 0)]) (.agg (ad_.cells ⟨[]⟩)) := (ay_.agg (ak_.cons (ay_.mknil lo lo H 3) (ak_.nil _ _ _) ⟨Nat.le_refl _, Nat.le_refl _⟩)).widen (Nat.le_refl _) h
end
def c61 : LC :=
 .q [.o [.bx 2 41 0, .s 4 (.alloc 41 z0z), .ki 5 0, .ki 6 0], .q [.o [.ld 11 1 2, .c1 12 43 11, .nt 13 12, .m 14 13, .gm 15 14 false 1, .gc 16 14 false 91 15, .gu 17 14 false 16, .pt 18 14 17], .k 18 (.q [.o [.s 19
 (.build z0z [(0, 1)] []), .st 1 4 19, .ki 5 0, .ki 6 1], .ret]) .skip], .o [.ld 20 1 2, .c1 21 60 20, .s 7 (.alloc 41 z0z), .st 1 7 21], .q [.o [.m 22 1, .ll 23 22, .ki 24 0], .block 0 (.loop (.q [.o [.bb 25 .lss false
 24 23], .k 25 .skip (.exit 0), .block 1 (.q [.o [.m 26 24, .ia 27 5 22 24, .ld 28 5 27, .s 9 (.alloc 44 (.agg #[.int .i64 0, .string ⟨#[]⟩, .slice none 0 0, .string ⟨#[]⟩, .int .i64 0])), .m 8 26, .st 5 9 28], .o [.ld 29
 5 9, .c2 30 47 7 29, .m 10 30], .o [.m 31 10, .bk 32 .neq false 31 0], .k 32 (.q [.o [.s 33 (.build z0z [(0, 1)] []), .m 34 8, .m 35 10, .st 1 4 33, .m 5 34, .m 6 35], .ret]) .skip]), .o [.bk 36 .add false 24 1, .m 24
 36]]))], .o [.ld 37 1 7, .st 1 4 37, .ki 5 0, .ki 6 0], .ret]
def y2_ : LF := ⟨2, 38, c61, [.cell 4 (some 1), .tmp 5, .tmp 6]⟩
theorem DT_ : au_ Tryz.prog Tryz.f61 y2_ := ah_
theorem lK_ (x : ad_) (es : List ab_) (hx : ad_.sz x ≤ 1048576) (he : an_ ab_.sz es ≤ 1048576) : aQ_ Tryz.prog 61 [.agg (ad_.cells x), .list 0 5 (es.map ab_.cells)] (nG_ (dY_ x es)) t1_ := by
 refine bM_ mixed Tryz.func61 DT_ rfl (fun h0 => ?_)
 have hcp : ib_ Tryz.prog 60 [.agg [.list 0 3 (x.Nodes.map ac_.cells)]] (.agg (ad_.cells x)) _ := hL_ x hx
 have hl := aA_ he
 simp (disch := (first | omega | (simp only [ls_, la_, lc_, ln_]; first | done | omega))) only [aU_, go_sem, reduceEqDiff, ↓reduceIte, y2_, c61, ad_.cells]
 refine aa_.call (gT_ x hx _) ?_
 by_cases q1 : aW_ x = true
 case neg =>
  have q1' : aW_ x = false := by simpa using q1
  have hR : dY_ x es = (⟨[]⟩, 0, 1) := by simp [dY_, q1']
  simp (disch := (first | omega | (simp only [ls_, la_, lc_, ln_]; first | done | omega))) only [cc_, go_sem, reduceEqDiff, ↓reduceIte, q1', bE_, Option.map_some, eM_]
  rw [hR]
  exact ⟨⟨by first | exact aD_.app _ _ | exact (aD_.app _ _).set (by omega), pg_ (k0_ (by simp)) (by simp) _ _⟩, _, rfl, _, _, rfl⟩
 simp (disch := (first | omega | (simp only [ls_, la_, lc_, ln_]; first | done | omega))) only [go_sem, reduceEqDiff, ↓reduceIte, q1]
 refine aa_.call (gL_ es he _) ?_
 by_cases q2 : dk_ es = true
 case neg =>
  have q2' : dk_ es = false := by simpa using q2
  have hR : dY_ x es = (⟨[]⟩, 0, 1) := by simp [dY_, q2']
  simp (disch := (first | omega | (simp only [ls_, la_, lc_, ln_]; first | done | omega))) only [cc_, go_sem, reduceEqDiff, ↓reduceIte, q2', bE_, Option.map_some, eM_]
  rw [hR]
  exact ⟨⟨by first | exact aD_.app _ _ | exact (aD_.app _ _).set (by omega), pg_ (k0_ (by simp)) (by simp) _ _⟩, _, rfl, _, _, rfl⟩
 have hR : dY_ x es = bt_ x es 0 := by simp [dY_, q1, q2]
 rw [hR]
 simp (disch := (first | omega | (simp only [ls_, la_, lc_, ln_]; first | done | omega))) only [aU_, go_sem, reduceEqDiff, ↓reduceIte, q2]
 refine hcp _ _ (fun av H1 m1 F1 q3 => ?_)
 obtain ⟨l, rfl, es1, hrow⟩ := q3
 have l1 := m1.len
 have p1 := m1.at (i := h0.length + 1) (by rw [bs_]; rfl)
 simp only [la_, lc_, ln_] at l1
 have m0 : aD_ h0 H1 := (aD_.app h0 _).trans m1
 have hrl := (List.getElem?_eq_some_iff.1 hrow).1
 have B0 : eg_ H1.length (h0.length + 2) (H1 ++ [⟨41, 1, [[.own l x.Nodes.length]]⟩]) x := eg_.of (hi := H1.length) (aU_ rfl) (by omega) (Nat.le_refl _) ((F1.tree.keep fun y _ q => aE_ q).widen (by simp) (Nat.le_refl _)) ((aE_ hrl).trans hrow)
 simp (disch := (first | omega | (simp only [ls_, la_, lc_, ln_]; first | done | omega))) only [aU_, go_sem, reduceEqDiff, ↓reduceIte]
 refine aP_ (fun n t h => ∃ (k : Nat) (y : ad_), t 4 = .ptr (h0.length + 1) 1 0 0 ∧ t 7 = .ptr H1.length 1 0 0 ∧ t 22 = .list 0 5 (es.map ab_.cells) ∧ t 23 = .val (.int .i64 es.length) ∧ t 24 = .val (.int .i64 k) ∧ aD_ h0 h ∧ h[h0.length + 1]? = some ⟨41, 1, [[.val (.slice none 0 0)]]⟩ ∧
  eg_ H1.length (h0.length + 2) h y ∧ aW_ y = true ∧ bt_ x es 0 = bt_ y (es.drop k) k ∧ n = es.length - k ∧ k ≤ es.length) es.length ?_ ?_
 ·refine ⟨0, x, rfl, rfl, rfl, rfl, rfl, ?_, ?_, ?_, q1, rfl, rfl, Nat.zero_le _⟩
  ·first | exact m0.add _ | exact (m0.add _).set (by omega)
  ·(repeat (first | rw [al_ (by omega)] | rw [aE_ (by first | omega | (simp only [ls_, la_, lc_, ln_]; omega))])); exact p1
  ·first | exact B0 | (refine cast ?_ B0; congr 1; simp)
 rintro J hJ n t h ⟨k, y, t4, t7, t22, t23, t24, hM, o1, B, hy, hS, rfl, hk⟩
 have ml := hM.len
 have hlow := B.low
 have hol := (List.getElem?_eq_some_iff.1 o1).1
 by_cases hlt : k < es.length
 ·have hnk := (iN_ q2).2 es[k] (getElem_mem hlt)
  have hzk := cq_ he (getElem_mem hlt)
  simp (disch := (first | omega | (simp only [ls_, la_, lc_, ln_]; first | done | omega))) only [aU_, go_sem, reduceEqDiff, Nat.reduceAdd, ↓reduceIte, t7, t22, t23, t24, hlt, ab_.cells]
  refine kJ_ (B.keep (fun y _ q => by (repeat (first | rw [al_ (by omega)] | rw [aE_ (by first | omega | (simp only [ls_, la_, lc_, ln_]; omega))]))) (by simp)) es[k] hy hnk hzk (fun H2 k1 k2 k3 => ?_)
  simp only [la_, lc_, ln_] at k1
  have o2 : H2[h0.length + 1]? = some ⟨41, 1, [[.val (.slice none 0 0)]]⟩ := by
   rw [k2 _ (by omega)]; (repeat (first | rw [al_ (by omega)] | rw [aE_ (by first | omega | (simp only [ls_, la_, lc_, ln_]; omega))])); exact o1
  have hM2 : aD_ h0 H2 := ⟨by omega, fun z q => by
   rw [k2 z (by omega)]; (repeat (first | rw [al_ (by omega)] | rw [aE_ (by first | omega | (simp only [ls_, la_, lc_, ln_]; omega))])); exact hM.kept z q⟩
  by_cases hc : (bR_ y es[k]).2 = 0
  ·simp (disch := (first | omega | (simp only [ls_, la_, lc_, ln_]; first | done | omega))) only [go_sem, reduceEqDiff, ↓reduceIte, t24, hc]
   exact ⟨es.length - (k + 1), by omega, hJ _ _ _ ⟨k + 1, (bR_ y es[k]).1, by simp [upd, t4], by simp [upd, t7], by simp [upd, t22], by simp [upd, t23], by simp [upd], hM2, o2, k3 hc, le_ hy hnk, by rw [hS, ip_ hlt hc], rfl, by omega⟩⟩
  ·have hc' : ((bR_ y es[k]).2 = 0) = False := eq_false hc
   simp (disch := (first | omega | (simp only [ls_, la_, lc_, ln_]; first | done | omega))) only [aK_, go_sem, reduceEqDiff, ↓reduceIte, t4, o2, hc', bE_, Option.map_some, eM_]
   rw [hS, ij_ hlt hc]
   exact ⟨⟨by first | exact hM2 | exact hM2.set (by omega), pg_ (k0_ (by simp; omega)) (by simp; omega) _ _⟩, _, rfl, _, _, rfl⟩
 ·obtain ⟨a, o, ca, hF⟩ := B.arg
  have ca' := ca
  simp only [AV.cell, Value.oneCell'] at ca'
  simp (disch := (first | omega | (simp only [ls_, la_, lc_, ln_]; first | done | omega))) only [aK_, go_sem, reduceEqDiff, ↓reduceIte, t4, t7, t23, t24, o, o1, ca', hlt, eM_]
  rw [hS, lX_ (by omega)]
  exact ⟨⟨hM.set (by omega), pg_ ((hF.keep fun z q _ => al_ (by omega)).widen (by omega) (by simp)) (by simp; omega) _ _⟩, _, ca, _, _, rfl⟩
def AF_ : LC :=
 .q [.o [.bx 1 88 0, .f 2], .q [.o [.fa 3 1 1, .ln 4 3, .fa 5 2 1, .ln 6 5, .c2 7 105 4 6, .nt 8 7], .k 8 (.q [.o [.f 2], .ret]) .skip], .o [.fa 9 0 1, .ln 10 9, .bk 11 .eql false 10 1, .m 12 11, .gf 13 12 true 3 1, .gn
 14 12 true 13, .g 15 12 true (.lenStr (.tmp 14)), .g 16 12 true (.bin .leq false (.tmp 15) (.const (.int .i64 64))), .pf 17 12 16, .m 18 17, .gf 19 18 false 0 1, .gn 20 18 false 19, .g 21 18 false (.bin .eql false (.tmp
 20) (.const (.int .i64 2))), .gm 22 18 false 21, .gf 23 22 true 3 1, .gn 24 22 true 23, .g 25 22 true (.bin .eql false (.tmp 24) (.const (.string ⟨#[]⟩))), .g 26 18 false (.pick (.tmp 22) (.tmp 25) (.const (.bool
 false))), .pt 27 18 26, .m 2 27], .ret]
def xf_ : LF := ⟨1, 28, AF_, [.tmp 2]⟩
theorem zS_ : au_ Tryz.prog Tryz.f119 xf_ := ah_
theorem l8_ (x : az_) (hx : az_.sz x ≤ 1048576) (h : List Row) : aa_ Tryz.prog 119 [.agg (az_.cells x)] h (.val (.bool (de_ x))) := by
 refine aj_ mixed Tryz.func119 zS_ rfl rfl ?_ h
 have h1 := az_.sz_Name hx
 have h2 := aA_ (az_.sz_Subs hx)
 simp (disch := omega) only [xf_, AF_, az_.cells, go_sem, reduceEqDiff, Nat.reduceAdd, ↓reduceIte]
 repeat' (first
  | exact af_ _ _
  | (refine ae_ ?_; simp only [de_, *, Bool.true_and, Bool.and_false, Bool.false_and, Bool.true_or, Bool.false_or, decide_true, decide_false, Bool.and_self, Bool.or_self]; done)
  | (refine ae_ ?_; simp [de_, *]; done)
  | simp (disch := omega) only [go_sem, reduceEqDiff, ↓reduceIte]
  | (refine aa_.call (cy_ _ _ h1 h2 _) ?_)
  | (refine aa_.q (cy_ _ _ h1 h2 _) ?_)
  | ((first | (apply a1_; assumption) | (apply a0_; assumption) | (apply be_; assumption) | (apply bd_; assumption)); intro hb; try simp only [hb])
  | ((first | (apply aM_; assumption) | (apply aN_; assumption) | (apply aX_; assumption) | (apply aY_; assumption)); intro hb; try simp only [hb])
  | ((first | apply aG_ | apply aJ_ | apply ao_ | apply ar_) <;> intro hb <;> (try simp only [hb]) <;> (first | have hp := a8_ hb | have hp := a6_ hb | have hp := a7_ hb | have hp := a5_ hb | skip)))
theorem m1_ {x : ad_} {es : List ab_} (h1 : aW_ x = true) (h2 : dk_ es = true) : dY_ x es = bt_ x es 0 := by simp [dY_, h1, h2]
structure mZ_ (L lo : Nat) (H : List Row) (x : ad_) : Prop where
 out : ∃ (a : AV) (p q : Nat), H[L]? = some ⟨41, 1, [[a]]⟩ ∧ a.cell = true ∧ lo ≤ p ∧ p ≤ q ∧ q ≤ H.length ∧ (q ≤ L ∨ L < p) ∧ ay_ p q H (.agg [a]) (.agg (ad_.cells x))
section
variable {L lo : Nat} {H H' : List Row} {x : ad_}
theorem mZ_.keep (T : mZ_ L lo H x) (hL : lo ≤ L) (hk : ∀ y, lo ≤ y → y < H.length → H'[y]? = H[y]?) (hl : H.length ≤ H'.length) : mZ_ L lo H' x := by
 obtain ⟨a, p, q, o, ca, h1, h2, h3, h4, h5⟩ := T
 exact ⟨a, p, q, (hk L hL (List.getElem?_eq_some_iff.1 o).1).trans o, ca, h1, h2, by omega, h4, h5.keep fun y q1 q2 => hk y (by omega) (by omega)⟩
theorem mZ_.lt (T : mZ_ L lo H x) : L < H.length := by
 obtain ⟨a, p, q, o, _⟩ := T
 exact (List.getElem?_eq_some_iff.1 o).1
end
def Aa_ : LC :=
 .q [.o [.bx 4 41 0, .s 8 (.alloc 41 z0z), .ki 9 0], .o [.ld 14 1 4, .m 15 1, .m 16 2, .c3 17 114 14 15 16, .m 13 17, .ex 18 13 0, .ex 19 13 1, .m 10 18, .m 11 19], .q [.o [.m 20 11, .nt 21 20, .m 22 21, .gf 23 22 true 0
 4, .gn 24 22 true 23, .g 25 22 true (.lenSl (.tmp 24)), .g 26 22 true (.bin .geq false (.tmp 25) (.const (.int .i64 120))), .pf 27 22 26], .k 27 (.q [.o [.s 28 (.build z0z [(0, 1)] []), .st 1 8 28, .ki 9 4], .ret])
 .skip], .o [.s 29 (.buildSlice 93 3 (.agg #[.string ⟨#[]⟩, .slice none 0 0, .string ⟨#[]⟩]) 0 []), .fa 30 0 4, .ln 31 30, .m 32 10, .s 33 (.sliceSl 3 (.tmp 31) none (some (.tmp 32))), .ap 34 93 3 56 29 33, .m 12 34], .o
 [.m 35 12, .m 36 1, .m 37 2, .m 38 3, .s 39 (.build (.agg #[.string ⟨#[]⟩, .slice none 0 0, .string ⟨#[]⟩]) [(0, 1), (1, 1), (2, 1)] [(0, .tmp 36), (1, .tmp 37), (2, .tmp 38)]), .s 40 (.buildSlice 93 3 (.agg #[.string
 ⟨#[]⟩, .slice none 0 0, .string ⟨#[]⟩]) 1 [(0, .tmp 39)]), .ap 41 93 3 56 35 40, .m 12 41], .q [.o [.m 42 11], .k 42 (.o [.m 43 10, .bk 44 .add false 43 1, .m 10 44]) .skip], .o [.m 45 12, .fa 46 0 4, .ln 47 46, .m 48
 10, .s 49 (.sliceSl 3 (.tmp 47) (some (.tmp 48)) none), .ap 50 93 3 56 45 49, .c1 51 112 50, .s 52 (.build z0z [(0, 1)] [(0, .tmp 51)]), .st 1 8 52, .ki 9 0], .ret]
def xg_ : LF := ⟨4, 53, Aa_, [.cell 8 (some 1), .tmp 9]⟩
theorem yX_ : au_ prog Tryz.f153 xg_ := ah_
theorem s1_ (ns : List ac_) : ∀ e ∈ ns.map ac_.cells, e.all AV.cell = true := by
 intro e he
 obtain ⟨x, _, q⟩ := mem_map.1 he; subst q
 rfl
theorem lL_ (x : ad_) (n : ByteArray) (s : List ByteArray) (v : ByteArray) (hx : aW_ x = true) (ht : cP_ n s = true) (hv : v.size ≤ 64) (hs : an_ ByteArray.size s ≤ 1048576) : aQ_ prog 153 [.agg (ad_.cells x), .val (.string n), .list 0 1 (s.map am_), .val (.string v)] (fg_ (if dy_ x n s = 0 then ⟨dJ_ x.Nodes n s v⟩ else ⟨[]⟩, dy_ x n s)) h8_ := by
 refine bM_ mixed Tryz.func153 yX_ rfl (fun h0 => ?_)
 have hxl := hR_ hx
 have hpl := lE_ x.Nodes n s
 have hcv := s1_ x.Nodes
 simp (disch := (first | omega | (simp only [ls_, la_, lc_, ln_]; first | done | omega))) only [aU_, go_sem, reduceEqDiff, ↓reduceIte, xg_, Aa_, ad_.cells]
 refine aa_.call (kD_ x n s (cJ_ hx) hs _) ?_
 generalize hH : (h0 ++ [⟨41, 1, [[.list 0 3 (x.Nodes.map ac_.cells)]]⟩, ⟨41, 1, [[.val (.slice none 0 0)]]⟩] : List Row) = H
 have o0 : H[h0.length]? = some ⟨41, 1, [[.list 0 3 (x.Nodes.map ac_.cells)]]⟩ := by rw [← hH, b4_]; rfl
 have o1 : H[h0.length + 1]? = some ⟨41, 1, [[.val (.slice none 0 0)]]⟩ := by rw [← hH, bs_]; rfl
 have hl : H.length = h0.length + 2 := by rw [← hH]; simp
 have hM : aD_ h0 H := by rw [← hH]; exact aD_.app _ _
 clear hH
 have fin : dy_ x n s = 0 → ∀ (H' : List Row) (es : List (List AV)) (k : Nat) (K : AV → List Row → Prop), aD_ H H' → H.length < H'.length → H'[H.length]? = some ⟨93, 3, es⟩ → es = (dJ_ x.Nodes n s v).map ac_.cells → k = (dJ_ x.Nodes n s v).length →
  (∀ (l : Nat) (H1 : List Row), aD_ H' H1 → FB H'.length H1.length H1 (.own l (dJ_ x.Nodes n s v).length) (.list 0 3 ((dJ_ x.Nodes n s v).map ac_.cells)) → K (.own l (dJ_ x.Nodes n s v).length) H1) →
  callSem prog 112 [.own H.length k] H' K := by
  intro hC H' es k K hM' hHl o2 he hk hK
  have hok : aW_ ⟨dJ_ x.Nodes n s v⟩ = true := rC_ hx ht hv (by
   unfold dy_ at hC
   split at hC
   ·assumption
   ·cases hC)
  subst he hk
  refine eH_ (hI_ (dJ_ x.Nodes n s v) (ad_.sz_Nodes (cJ_ hok))) (bc_.cons (ca_.res (n := 3) (lC_ o2 (by simp) (oJ_ _))) bc_.nil) (fun av H1 m1 F1 q1 => ?_)
  obtain ⟨l, rfl⟩ := q1
  exact hK l H1 m1 F1
 cases hf : bI_ x.Nodes n s
 case true =>
  have hC : dy_ x n s = 0 := by rw [dy_, if_pos (.inl hf)]
  obtain ⟨hp, _, _⟩ := ke_ hf
  have hP : dJ_ x.Nodes n s v = x.Nodes.take (bw_ x.Nodes n s) ++ ⟨n, s, v⟩ :: x.Nodes.drop (bw_ x.Nodes n s + 1) := by rw [dJ_, if_pos hf]
  rw [hC, if_pos rfl]
  simp (disch := (first | omega | (simp only [ls_, la_, lc_, ln_]; first | done | omega))) only [aE_, aU_, cc_, go_sem, reduceEqDiff, Nat.reduceAdd, reduceLeDiff, ↓reduceIte, o0, hpl, bE_, Option.map_some, length_map, la_, length_take, length_drop, lc_, ln_, drop_zero, nil_append, Nat.zero_add, if_pos]
  have htn : ((bw_ x.Nodes n s : Int) + 1).toNat = bw_ x.Nodes n s + 1 := by omega
  have hML : (x.Nodes.map ac_.cells).length ≤ x.Nodes.length := by simp
  refine ⟨by omega, by omega, fun e he => hcv e (mem_of_mem_take he), by omega, by omega, by omega, by omega, fun e he => hcv e (mem_of_mem_take (mem_of_mem_drop he)), ?_⟩
  refine fin hC _ _ _ _ (aD_.app _ _) (by simp) (aU_ rfl) ?_ ?_ (fun l H1 m1 F1 => ?_)
  ·rw [hP, htn, take_of_length_le hML]
   simp only [map_append, map_cons, map_take, map_drop]
   rfl
  ·rw [hP, la_, lc_, length_take, length_drop]; omega
  ·have o2 := m1.at ((aE_ (by omega)).trans o1)
   have l1 := m1.len
   simp only [la_, lc_, ln_] at l1
   simp (disch := (first | omega | (simp only [ls_, la_, lc_, ln_]; first | done | omega))) only [aK_, go_sem, reduceEqDiff, ↓reduceIte, o2, bE_, Option.map_some, dz_]
   exact ⟨⟨((hM.add _).trans m1).set (by omega), hT_ ((ay_.agg (ak_.cons (F1.tree.keep fun z q _ => al_ (by simp at q; omega)) (ak_.nil _ _ _) ⟨by simp; omega, Nat.le_refl _⟩)).widen (by simp; omega) (by simp)) (by simp; omega) _⟩, _, rfl, _, rfl⟩
 case false =>
  by_cases h120 : x.Nodes.length < 120
  ·have hC : dy_ x n s = 0 := by rw [dy_, if_pos (.inr h120)]
   have h120' : ((120 : Int) ≤ (x.Nodes.length : Int)) = False := eq_false (by omega)
   have hP : dJ_ x.Nodes n s v = x.Nodes.take (bw_ x.Nodes n s) ++ ⟨n, s, v⟩ :: x.Nodes.drop (bw_ x.Nodes n s) := mk_ hf
   rw [hC, if_pos rfl]
   simp (disch := (first | omega | (simp only [ls_, la_, lc_, ln_]; first | done | omega))) only [aE_, aU_, cc_, go_sem, reduceEqDiff, Nat.reduceAdd, reduceLeDiff, ↓reduceIte, o0, hpl, bE_, Option.map_some, length_map, la_, length_take, length_drop, lc_, ln_, drop_zero, nil_append, Nat.zero_add, h120']
   have hML : (x.Nodes.map ac_.cells).length ≤ x.Nodes.length := by simp
   refine ⟨by omega, by omega, fun e he => hcv e (mem_of_mem_take he), by omega, by omega, by omega, by omega, fun e he => hcv e (mem_of_mem_take (mem_of_mem_drop he)), ?_⟩
   refine fin hC _ _ _ _ (aD_.app _ _) (by simp) (aU_ rfl) ?_ ?_ (fun l H1 m1 F1 => ?_)
   ·rw [hP, take_of_length_le hML]
    simp only [map_append, map_cons, map_take, map_drop]
    rfl
   ·rw [hP, la_, lc_, length_take, length_drop]; omega
   ·have o2 := m1.at ((aE_ (by omega)).trans o1)
    have l1 := m1.len
    simp only [la_, lc_, ln_] at l1
    simp (disch := (first | omega | (simp only [ls_, la_, lc_, ln_]; first | done | omega))) only [aK_, go_sem, reduceEqDiff, ↓reduceIte, o2, bE_, Option.map_some, dz_]
    exact ⟨⟨((hM.add _).trans m1).set (by omega), hT_ ((ay_.agg (ak_.cons (F1.tree.keep fun z q _ => al_ (by simp at q; omega)) (ak_.nil _ _ _) ⟨by simp; omega, Nat.le_refl _⟩)).widen (by simp; omega) (by simp)) (by simp; omega) _⟩, _, rfl, _, rfl⟩
  ·have hC : dy_ x n s = 4 := by rw [dy_, if_neg (by rw [hf]; simp; omega)]
   have h120' : ((120 : Int) ≤ (x.Nodes.length : Int)) = True := eq_true (by omega)
   rw [hC, if_neg (by decide)]
   simp (disch := (first | omega | (simp only [ls_, la_, lc_, ln_]; first | done | omega))) only [aK_, go_sem, reduceEqDiff, ↓reduceIte, o0, o1, length_map, h120', bE_, Option.map_some, dz_]
   exact ⟨⟨hM.set (by omega), hT_ (k0_ (by simp; omega)) (by simp; omega) _⟩, _, rfl, _, rfl⟩
def vv_ : LC :=
 .q [.o [.bx 2 41 0, .bx 3 88 1, .s 4 (.alloc 41 z0z), .ki 5 0], .q [.o [.fa 6 0 3, .ln 7 6, .bk 8 .eql false 7 1], .k 8 (.q [.o [.ld 9 1 2, .fa 10 1 3, .ln 11 10, .fa 12 2 3, .ln 13 12, .fa 14 3 3, .ln 15 14, .s 16
 (.call 153 [.tmp 9, .tmp 11, .tmp 13, .tmp 15]), .ex 17 16 0, .ex 18 16 1, .st 1 4 17, .m 5 18], .ret]) .skip], .o [.ld 19 1 2, .fa 20 1 3, .ln 21 20, .fa 22 2 3, .ln 23 22, .c3 24 154 19 21 23, .st 1 4 24, .ki 5 0],
 .ret]
def sM_ : LF := ⟨2, 25, vv_, [.cell 4 (some 1), .tmp 5]⟩
theorem A8_ : au_ prog Tryz.f120 sM_ := ah_
theorem ml_ (x : ad_) (c : az_) (hx : aW_ x = true) (hc : de_ c = true) (hz : az_.sz c ≤ 1048576) : aQ_ prog 120 [.agg (ad_.cells x), .agg (az_.cells c)] (fg_ (b6_ x c)) h8_ := by
 refine bM_ mixed Tryz.func120 A8_ rfl (fun h0 => ?_)
 have hs := az_.sz_Subs hz
 have hc2 := hc
 simp only [de_, Bool.and_eq_true, Bool.or_eq_true, decide_eq_true_eq] at hc2
 by_cases hk1 : c.Kind = 1
 ·have hk1' : (c.Kind = 1) = True := eq_true hk1
  have hv : c.Value.size ≤ 64 := by rcases hc2.2 with ⟨_, q⟩ | ⟨q, _⟩ <;> omega
  have hR : b6_ x c = (if dy_ x c.Name c.Subs = 0 then ⟨dJ_ x.Nodes c.Name c.Subs c.Value⟩ else ⟨[]⟩, dy_ x c.Name c.Subs) := by
   unfold b6_ dy_
   rw [if_pos hk1]
   split
   ·rfl
   ·rfl
  have hput : aQ_ prog 153 [.agg [.list 0 3 (x.Nodes.map ac_.cells)], .val (.string c.Name), .list 0 1 (c.Subs.map am_), .val (.string c.Value)] (fg_ (b6_ x c)) h8_ := by
   rw [hR]; exact lL_ x c.Name c.Subs c.Value hx hc2.1 hv hs
  simp (disch := (first | omega | (simp only [ls_, la_, lc_, ln_]; first | done | omega))) only [aU_, cc_, go_sem, reduceEqDiff, Nat.reduceAdd, ↓reduceIte, sM_, vv_, ad_.cells, az_.cells, hk1']
  refine bk_ hput (fun av H1 m1 F1 q1 => ?_)
  obtain ⟨b, cb, v, rfl⟩ := q1
  obtain ⟨G, hv⟩ := F1.two
  simp only [AV.val.injEq, Value.int.injEq, true_and] at hv
  subst hv
  have cb' := cb
  simp only [AV.cell, Value.oneCell'] at cb'
  have l1 := m1.len
  simp only [la_, lc_, ln_] at l1
  have p2 := m1.at (i := h0.length + 2) (by rw [bs_]; rfl)
  simp (disch := (first | omega | (simp only [ls_, la_, lc_, ln_]; first | done | omega))) only [aK_, go_sem, reduceEqDiff, ↓reduceIte, p2, cb', dz_]
  exact ⟨⟨((aD_.app h0 _).trans m1).set (by omega), hT_ ((G.tree.keep fun z q _ => al_ (by simp at q; omega)).widen (by simp) (by simp)) (by simp; omega) _⟩, _, cb, _, rfl⟩
 ·have hk1' : (c.Kind = 1) = False := eq_false hk1
  have hR : b6_ x c = (⟨cR_ x.Nodes c.Name c.Subs⟩, 0) := by rw [b6_, if_neg hk1]
  have hkill : aQ_ prog 154 [.agg [.list 0 3 (x.Nodes.map ac_.cells)], .val (.string c.Name), .list 0 1 (c.Subs.map am_)] (.agg (ad_.cells ⟨cR_ x.Nodes c.Name c.Subs⟩)) (fun a => ∃ l, a = .agg [.own l (cR_ x.Nodes c.Name c.Subs).length]) := kZ_ x c.Name c.Subs (cJ_ hx)
  rw [hR]
  simp (disch := (first | omega | (simp only [ls_, la_, lc_, ln_]; first | done | omega))) only [aU_, cc_, go_sem, reduceEqDiff, Nat.reduceAdd, ↓reduceIte, sM_, vv_, ad_.cells, az_.cells, hk1']
  refine bk_ hkill (fun av H1 m1 F1 q1 => ?_)
  obtain ⟨l, rfl⟩ := q1
  have l1 := m1.len
  simp only [la_, lc_, ln_] at l1
  have p2 := m1.at (i := h0.length + 2) (by rw [bs_]; rfl)
  simp (disch := (first | omega | (simp only [ls_, la_, lc_, ln_]; first | done | omega))) only [aK_, go_sem, reduceEqDiff, ↓reduceIte, p2, dz_]
  exact ⟨⟨((aD_.app h0 _).trans m1).set (by omega), hT_ ((F1.tree.keep fun z q _ => al_ (by simp at q; omega)).widen (by simp) (by simp)) (by simp; omega) _⟩, _, rfl, _, rfl⟩
def jX_ (x : ad_) (c : az_) : ad_ × Int := if (aW_ x && de_ c) = true then b6_ x c else (⟨[]⟩, 1)
def c84 : LC :=
 .q [.o [.bx 2 41 0, .bx 3 88 1, .s 4 (.alloc 41 z0z), .ki 5 0], .q [.o [.ld 6 1 2, .c1 7 29 6, .nt 8 7, .m 9 8, .gl 10 9 false 4 3, .gc 11 9 false 119 10, .gu 12 9 false 11, .pt 13 9 12], .k 13 (.q [.o [.s 14 (.build z0z
 [(0, 1)] []), .st 1 4 14, .ki 5 1], .ret]) .skip], .o [.ld 15 1 2, .ld 16 4 3, .c2 17 120 15 16, .ex 18 17 0, .ex 19 17 1, .st 1 4 18, .m 5 19], .ret]
def Bi_ : LF := ⟨2, 20, c84, [.cell 4 (some 1), .tmp 5]⟩
theorem DR_ : au_ prog Tryz.f84 Bi_ := ah_
theorem kK_ (x : ad_) (c : az_) (hx : ad_.sz x ≤ 1048576) (hz : az_.sz c ≤ 1048576) : aQ_ prog 84 [.agg (ad_.cells x), .agg (az_.cells c)] (fg_ (jX_ x c)) h8_ := by
 refine bM_ mixed Tryz.func84 DR_ rfl (fun h0 => ?_)
 simp (disch := (first | omega | (simp only [ls_, la_, lc_, ln_]; first | done | omega))) only [aU_, go_sem, reduceEqDiff, Nat.reduceAdd, ↓reduceIte, Bi_, c84, ad_.cells, az_.cells]
 refine aa_.call (cM_ x hx _) ?_
 by_cases q1 : aW_ x = true
 case neg =>
  have q1' : aW_ x = false := by simpa using q1
  have hR : jX_ x c = (⟨[]⟩, 1) := by simp [jX_, q1']
  simp (disch := (first | omega | (simp only [ls_, la_, lc_, ln_]; first | done | omega))) only [eG_, go_sem, reduceEqDiff, ↓reduceIte, q1', bE_, Option.map_some, dz_]
  rw [hR]
  exact ⟨⟨by first | exact aD_.app _ _ | exact (aD_.app _ _).set (by omega), hT_ (k0_ (by simp)) (by simp) _⟩, _, rfl, _, rfl⟩
 simp (disch := (first | omega | (simp only [ls_, la_, lc_, ln_]; first | done | omega))) only [cc_, go_sem, reduceEqDiff, Nat.reduceAdd, ↓reduceIte, q1]
 refine aa_.call (l8_ c hz _) ?_
 by_cases q2 : de_ c = true
 case neg =>
  have q2' : de_ c = false := by simpa using q2
  have hR : jX_ x c = (⟨[]⟩, 1) := by simp [jX_, q2']
  simp (disch := (first | omega | (simp only [ls_, la_, lc_, ln_]; first | done | omega))) only [eG_, go_sem, reduceEqDiff, ↓reduceIte, q2', bE_, Option.map_some, dz_]
  rw [hR]
  exact ⟨⟨by first | exact aD_.app _ _ | exact (aD_.app _ _).set (by omega), hT_ (k0_ (by simp)) (by simp) _⟩, _, rfl, _, rfl⟩
 have hR : jX_ x c = b6_ x c := by simp [jX_, q1, q2]
 have hdo : aQ_ prog 120 [.agg [.list 0 3 (x.Nodes.map ac_.cells)], .agg [.val (.int .i64 c.Kind), .val (.string c.Name), .list 0 1 (c.Subs.map am_), .val (.string c.Value)]] (fg_ (b6_ x c)) h8_ := ml_ x c q1 q2 hz
 rw [hR]
 simp (disch := (first | omega | (simp only [ls_, la_, lc_, ln_]; first | done | omega))) only [aU_, cc_, go_sem, reduceEqDiff, Nat.reduceAdd, ↓reduceIte, q2]
 refine bk_ hdo (fun av H1 m1 F1 q3 => ?_)
 obtain ⟨b, cb, v, rfl⟩ := q3
 obtain ⟨G, hv⟩ := F1.two
 simp only [AV.val.injEq, Value.int.injEq, true_and] at hv
 subst hv
 have cb' := cb
 simp only [AV.cell, Value.oneCell'] at cb'
 have l1 := m1.len
 simp only [la_, lc_, ln_] at l1
 have p2 := m1.at (i := h0.length + 2) (by rw [bs_]; rfl)
 simp (disch := (first | omega | (simp only [ls_, la_, lc_, ln_]; first | done | omega))) only [aK_, go_sem, reduceEqDiff, ↓reduceIte, p2, cb', dz_]
 exact ⟨⟨((aD_.app h0 _).trans m1).set (by omega), hT_ ((G.tree.keep fun z q _ => al_ (by simp at q; omega)).widen (by simp) (by simp)) (by simp; omega) _⟩, _, cb, _, rfl⟩
def c37 : LC :=
 .q [.o [.bx 2 41 0, .bx 3 44 1, .s 4 (.alloc 41 z0z), .ki 5 0], .gops [.ld 6 1 2, .ld 7 5 3] [(.c1 8 85 7, [.ld 6 1 2]), (.c2 9 84 6 8, []), (.ex 10 9 0, []), (.ex 11 9 1, []), (.st 1 4 10, []), (.m 5 11, [])], .ret]
def zy_ : LF := ⟨2, 12, c37, [.cell 4 (some 1), .tmp 5]⟩
theorem Db_ : au_ Tryz.prog Tryz.f37 zy_ := ah_
theorem kX_ (x : ad_) (e : ab_) (hx : aW_ x = true) (hn : bD_ e = true) (ht : bJ_ e = true) (hz : ab_.sz e ≤ 1048576) : aQ_ Tryz.prog 37 [.agg (ad_.cells x), .agg (ab_.cells e)] (fg_ (b6_ x (c6_ e))) h8_ := by
 refine bM_ mixed Tryz.func37 Db_ rfl (fun h0 => ?_)
 have hch : aQ_ Tryz.prog 85 [.agg [.val (.int .i64 e.Kind), .val (.string e.Name), .list 0 1 (e.Subs.map am_), .val (.string e.Value), .val (.int .i64 e.N)]] (.agg (az_.cells (c6_ e))) (fun a => ∃ l, a = .agg [.val (.int .i64 (c6_ e).Kind), .val (.string e.Name), .own l e.Subs.length, .val (.string e.Value)]) := gs_ e hz
 have hcz : az_.sz (c6_ e) ≤ 1048576 := Nat.le_trans (Nat.le_refl (e.Name.size + an_ ByteArray.size e.Subs + e.Value.size)) hz
 have hdc : jX_ x (c6_ e) = b6_ x (c6_ e) := by simp [jX_, hx, lY_ hn ht]
 simp (disch := (first | omega | (simp only [ls_, la_, lc_, ln_]; first | done | omega))) only [aU_, cc_, go_sem, Nat.reduceEqDiff, Nat.reduceAdd, ↓reduceIte, zy_, c37, ad_.cells, ab_.cells]
 refine bk_ hch (fun av H1 m1 F1 q3 => ?_)
 obtain ⟨l, rfl⟩ := q3
 have l1 := m1.len
 simp only [la_, lc_, ln_] at l1
 have p0 := m1.at (i := h0.length) (by rw [b4_]; rfl)
 have p2 := m1.at (i := h0.length + 2) (by rw [bs_]; rfl)
 simp (disch := (first | omega | (simp only [ls_, la_, lc_, ln_]; first | done | omega))) only [go_sem, Nat.reduceEqDiff, ↓reduceIte, p0]
 refine eH_ (kK_ x (c6_ e) (cJ_ hx) hcz) (bc_.cons (ca_.same rfl) (bc_.cons F1.arg.any bc_.nil)) (fun av H2 m2 F2 q4 => ?_)
 obtain ⟨b, cb, v, rfl⟩ := q4
 obtain ⟨G, hv⟩ := F2.two
 simp only [AV.val.injEq, Value.int.injEq, true_and] at hv
 subst hv
 rw [hdc] at G ⊢
 have cb' := cb
 simp only [AV.cell, Value.oneCell'] at cb'
 have l2 := m2.len
 have p3 := m2.at p2
 simp (disch := (first | omega | (simp only [ls_, la_, lc_, ln_]; first | done | omega))) only [aK_, go_sem, Nat.reduceEqDiff, ↓reduceIte, p3, cb', dz_]
 exact ⟨⟨(((aD_.app h0 _).trans m1).trans m2).set (by omega), hT_ ((G.tree.keep fun z q _ => al_ (by omega)).widen (by omega) (by simp)) (by simp; omega) _⟩, _, cb, _, rfl⟩
theorem vm_ {e : ab_} (hn : bD_ e = true) (hr : bQ_ e = false) : bJ_ e = true := by
 cases ht : bJ_ e
 ·rw [pq_ hn ht] at hr; cases hr
 ·rfl
theorem t9_ {e : ab_} (hr : bQ_ e = true) : bJ_ e = false := by
 simp only [bQ_, Bool.or_eq_true, decide_eq_true_eq] at hr
 simp only [bJ_, Bool.or_eq_false_iff, decide_eq_false_iff_not]
 omega
structure lG_ (L : Nat) (a0 : AV) (x0 : ad_) (h : List Row) (y : ad_) : Prop where
 out : ∃ a, h[L]? = some ⟨41, 1, [[a]]⟩ ∧ a.cell = true ∧ ((a = a0 ∧ y = x0) ∨ ay_ (L + 2) h.length h (.agg [a]) (.agg (ad_.cells y)))
theorem lG_.lt {L : Nat} {a0 : AV} {x0 y : ad_} {h : List Row} (T : lG_ L a0 x0 h y) : L < h.length := by
 obtain ⟨a, o, _⟩ := T
 exact (List.getElem?_eq_some_iff.1 o).1
theorem lG_.keep {L : Nat} {a0 : AV} {x0 y : ad_} {h h' : List Row} (T : lG_ L a0 x0 h y) (hk : ∀ z, L ≤ z → z < h.length → z ≠ L + 1 → h'[z]? = h[z]?) (hl : h.length ≤ h'.length) : lG_ L a0 x0 h' y := by
 have hL := T.lt
 obtain ⟨a, o, ca, hF⟩ := T
 refine ⟨a, (hk L (Nat.le_refl _) hL (by omega)).trans o, ca, ?_⟩
 rcases hF with q | q
 ·exact .inl q
 ·exact .inr ((q.keep fun z q1 q2 => hk z (by omega) q2 (by omega)).widen (Nat.le_refl _) hl)
def c58 : LC :=
 .q [.o [.bx 2 41 0, .s 4 (.alloc 41 z0z), .ki 5 0, .ki 6 0], .q [.o [.ki 7 0], .block 0 (.loop (.q [.q [.o [.m 10 7, .m 11 1, .ll 12 11, .bb 13 .lss false 10 12], .k 13 .skip (.exit 0)], .block 1 (.q [.q [.o [.m 16 1, .m
 17 7, .ia 18 5 16 17, .ld 19 5 18, .c1 20 33 19], .k 20 (.q [.q [.gops [.ld 21 1 2, .m 22 1, .m 23 7, .ia 24 5 22 23, .ld 25 5 24, .m 27 1, .m 28 7, .ia 29 5 27 28, .ld 30 5 29] [(.c2 26 35 21 25, [.m 27 1, .m 28 7, .ia
 29 5 27 28, .ld 30 5 29]), (.c2 31 34 26 30, []), (.nt 32 31, [])], .k 32 (.q [.o [.s 33 (.build z0z [(0, 1)] []), .m 34 7, .st 1 4 33, .m 5 34, .ki 6 5], .ret]) .skip], .exit 1]) .skip], .gops [.ld 36 1 2, .m 37 1, .m
 38 7, .ia 39 5 37 38, .ld 40 5 39] [(.c2 41 37 36 40, []), (.m 35 41, []), (.ex 42 35 0, []), (.ex 43 35 1, []), (.s 8 (.alloc 41 z0z), [.ld 36 1 2, .m 37 1, .m 38 7, .ia 39 5 37 38, .ld 40 5 39]), (.st 1 8 42, []), (.m
 9 43, [])], .q [.o [.m 44 9, .bk 45 .neq false 44 0], .k 45 (.q [.o [.s 46 (.build z0z [(0, 1)] []), .m 47 7, .m 48 9, .st 1 4 46, .m 5 47, .m 6 48], .ret]) .skip], .o [.ld 49 1 8, .st 1 2 49]]), .o [.m 14 7, .bk 15 .add
 false 14 1, .m 7 15]]))], .o [.ld 50 1 2, .st 1 4 50, .ki 5 0, .ki 6 0], .ret]
def Cy_ : LF := ⟨2, 51, c58, [.cell 4 (some 1), .tmp 5, .tmp 6]⟩
theorem DN_ : au_ Tryz.prog Tryz.f58 Cy_ := rD_
theorem ms_ {H : List Row} {a0 : AV} (x : ad_) (es : List ab_) (ca0 : a0.cell = true) (hA0 : ∀ X : List Row, aD_ H X → ca_ X (.agg [a0]) (.agg (ad_.cells x))) (hx : aW_ x = true) (hn : ∀ e ∈ es, bD_ e = true) (hz : an_ ab_.sz es ≤ 1048576) {K : AV → List Row → Prop}
 (hk : ∀ (b : AV) (H' : List Row), aD_ H H' → b.cell = true → ((b = a0 ∧ (bt_ x es 0).1 = x) ∨ ay_ H.length H'.length H' (.agg [b]) (.agg (ad_.cells (bt_ x es 0).1))) → K (.tup [.agg [b], .val (.int .i64 (bt_ x es 0).2.1), .val (.int .i64 (bt_ x es 0).2.2)]) H') :
 callSem Tryz.prog 58 [.agg [a0], .list 0 5 (es.map ab_.cells)] H K := by
 refine bg_ mixed Tryz.func58 DN_ (bT_ rfl ?_)
 have hl := aA_ hz
 have ca0' := ca0
 simp only [AV.cell, Value.oneCell'] at ca0'
 simp (disch := (first | omega | (simp only [ls_, la_, lc_, ln_]; first | done | omega))) only [go_sem, ↓reduceIte, Cy_, c58, ca0']
 refine aP_ (fun n t h => ∃ (k : Nat) (y : ad_), t 1 = .list 0 5 (es.map ab_.cells) ∧ t 2 = .ptr H.length 1 0 0 ∧ t 4 = .ptr (H.length + 1) 1 0 0 ∧ t 7 = .val (.int .i64 k) ∧ aD_ H h ∧ h[H.length + 1]? = some ⟨41, 1, [[.val (.slice none 0 0)]]⟩ ∧
  lG_ H.length a0 x h y ∧ aW_ y = true ∧ bt_ x es 0 = bt_ y (es.drop k) k ∧ n = es.length - k ∧ k ≤ es.length) es.length ⟨0, x, rfl, rfl, rfl, rfl, aD_.app _ _, by rw [bs_]; rfl, ⟨a0, by rw [b4_]; rfl, ca0, .inl ⟨rfl, rfl⟩⟩, hx, rfl, rfl, Nat.zero_le _⟩ ?_
 rintro J hJ n t h ⟨k, y, t1, t2, t4, t7, hM, o1, T, hy, hS, rfl, hk'⟩
 have ml := hM.len
 have hlL := T.lt
 obtain ⟨a, o0, ca, hF⟩ := id T
 have hol := (List.getElem?_eq_some_iff.1 o1).1
 have ca' := ca
 simp only [AV.cell, Value.oneCell'] at ca'
 have hA : ca_ h (.agg [a]) (.agg (ad_.cells y)) := by
  rcases hF with ⟨rfl, rfl⟩ | q
  ·exact hA0 h hM
  ·exact q.arg.any
 have hnil : ∀ X : List Row, aD_ H X → ay_ H.length X.length X (.agg [.val (.slice none 0 0)]) (.agg (ad_.cells ⟨[]⟩)) := fun X m => k0_ m.len
 skip
 by_cases hlt : k < es.length
 ·have hnk := hn es[k] (getElem_mem hlt)
  have hzk : ab_.sz es[k] ≤ 1048576 := cq_ hz (getElem_mem hlt)
  simp (disch := (first | omega | (simp only [ls_, la_, lc_, ln_]; first | done | omega))) only [go_sem, reduceEqDiff, Nat.reduceAdd, ↓reduceIte, t1, t7, hlt, ab_.cells]
  refine aa_.call (i6_ es[k] _) ?_
  cases hr : bQ_ es[k]
  case true =>
   have ht := t9_ hr
   have hAp : bR_ y es[k] = if bL_ (bu_ y es[k]) es[k] = true then (y, 0) else (⟨[]⟩, 5) := by rw [bR_, if_neg (by rw [ht]; simp)]
   have hag : aQ_ Tryz.prog 35 [.agg (ad_.cells y), .agg [.val (.int .i64 es[k].Kind), .val (.string es[k].Name), .list 0 1 (es[k].Subs.map am_), .val (.string es[k].Value), .val (.int .i64 es[k].N)]] (.agg (ab_.cells (bu_ y es[k]))) (gS_ es[k]) := kI_ y es[k] (cJ_ hy) hzk hy hnk hr
   have hse : ∀ X, aa_ Tryz.prog 34 [.agg (ab_.cells (bu_ y es[k])), .agg [.val (.int .i64 es[k].Kind), .val (.string es[k].Name), .list 0 1 (es[k].Subs.map am_), .val (.string es[k].Value), .val (.int .i64 es[k].N)]] X (.val (.bool (bL_ (bu_ y es[k]) es[k]))) := fun X => ks_ (bu_ y es[k]) es[k] (lR_ hy hnk hzk) X
   simp (disch := (first | omega | (simp only [ls_, la_, lc_, ln_]; first | done | omega))) only [go_sem, reduceEqDiff, Nat.reduceAdd, ↓reduceIte, t1, t2, t7, o0, ab_.cells]
   refine eH_ hag (bc_.cons hA (bc_.cons (ca_.same rfl) bc_.nil)) (fun av H1 m1 F1 q1 => ?_)
   obtain ⟨l, v, kk, rfl⟩ := q1
   have l1 := m1.len
   have p0 := m1.at o0
   have p1 := m1.at o1
   have hM1 : aD_ H H1 := hM.trans m1
   skip
   simp (disch := (first | omega | (simp only [ls_, la_, lc_, ln_]; first | done | omega))) only [go_sem, reduceEqDiff, Nat.reduceAdd, ↓reduceIte, t1, t7, ab_.cells]
   refine aa_.call (aa_.anyR rfl hse (bc_.cons F1.tree.arg.any (bc_.cons (ca_.same rfl) bc_.nil))) ?_
   cases hq : bL_ (bu_ y es[k]) es[k]
   ·rw [hq] at hAp
    have hc : ¬ (bR_ y es[k]).2 = 0 := by rw [hAp]; simp
    rw [hS, ij_ hlt hc, hAp] at hk
    simp (disch := (first | omega | (simp only [ls_, la_, lc_, ln_]; first | done | omega))) only [aK_, go_sem, reduceEqDiff, ↓reduceIte, t4, t7, p1, bE_, Option.map_some, eM_]
    exact hk _ _ (hM1.set (by omega)) rfl (.inr (hnil _ (hM1.set (by omega))))
   ·rw [hq] at hAp
    have hc : (bR_ y es[k]).2 = 0 := by rw [hAp]; rfl
    have hA1 : (bR_ y es[k]).1 = y := by rw [hAp]; rfl
    simp (disch := (first | omega | (simp only [ls_, la_, lc_, ln_]; first | done | omega))) only [go_sem, reduceEqDiff, ↓reduceIte, t7]
    exact ⟨es.length - (k + 1), by omega, hJ _ _ _ ⟨k + 1, y, by simp [upd, t1], by simp [upd, t2], by simp [upd, t4], by simp [upd], hM1, p1, T.keep (fun z q1 q2 q3 => m1.kept z q2) l1, hy, by rw [hS, ip_ hlt hc, hA1], rfl, by omega⟩⟩
  case false =>
   have ht := vm_ hnk hr
   have hAp : bR_ y es[k] = b6_ y (c6_ es[k]) := by rw [bR_, if_pos ht]
   have htn : aQ_ Tryz.prog 37 [.agg (ad_.cells y), .agg [.val (.int .i64 es[k].Kind), .val (.string es[k].Name), .list 0 1 (es[k].Subs.map am_), .val (.string es[k].Value), .val (.int .i64 es[k].N)]] (fg_ (bR_ y es[k])) h8_ := by
    rw [hAp]; exact kX_ y es[k] hy hnk ht hzk
   simp (disch := (first | omega | (simp only [ls_, la_, lc_, ln_]; first | done | omega))) only [go_sem, reduceEqDiff, Nat.reduceAdd, ↓reduceIte, t1, t2, t7, o0, ab_.cells]
   refine eH_ htn (bc_.cons hA (bc_.cons (ca_.same rfl) bc_.nil)) (fun av H1 m1 F1 q1 => ?_)
   obtain ⟨b, cb, v, rfl⟩ := q1
   obtain ⟨G, hv⟩ := F1.two
   simp only [AV.val.injEq, Value.int.injEq, true_and] at hv
   subst hv
   have l1 := m1.len
   have cb' := cb
   simp only [AV.cell, Value.oneCell'] at cb'
   have p0 := m1.at o0
   have p1 := m1.at o1
   have hM1 : aD_ H H1 := hM.trans m1
   skip
   by_cases hc : (bR_ y es[k]).2 = 0
   ·simp (disch := (first | omega | (simp only [ls_, la_, lc_, ln_]; first | done | omega))) only [aE_, aU_, go_sem, reduceEqDiff, Nat.reduceAdd, ↓reduceIte, t1, t2, t7, p0, cb', hc, ab_.cells]
    refine ⟨es.length - (k + 1), by omega, hJ _ _ _ ⟨k + 1, (bR_ y es[k]).1, by simp [upd, t1], by simp [upd, t2], by simp [upd, t4], by simp [upd], ?_, ?_, ?_, le_ hy hnk, by rw [hS, ip_ hlt hc], rfl, by omega⟩⟩
    ·first | exact (hM1.add _).set (by omega) | exact ((hM1.add _).set (by omega)).set (by omega) | exact (hM1.set (by omega)).add _
    ·(repeat (first | rw [al_ (by omega)] | rw [aE_ (by first | omega | (simp only [ls_, la_, lc_, ln_]; omega))])); exact p1
    ·refine ⟨b, ?_, cb, .inr ((G.tree.keep fun z q1 q2 => by (repeat (first | rw [al_ (by omega)] | rw [aE_ (by first | omega | (simp only [ls_, la_, lc_, ln_]; omega))]))).widen (by omega) (by simp))⟩
     first | exact aK_ (by simp; omega) | (rw [al_ (by omega)]; exact aK_ (by simp; omega)) | (rw [aE_ (by simp; omega)]; exact aK_ (by omega))
   ·have hc' : ((bR_ y es[k]).2 = 0) = False := eq_false hc
    rw [hS, ij_ hlt hc] at hk
    simp (disch := (first | omega | (simp only [ls_, la_, lc_, ln_]; first | done | omega))) only [aK_, aE_, aU_, go_sem, reduceEqDiff, Nat.reduceAdd, ↓reduceIte, t1, t2, t4, t7, p0, p1, cb', hc', ab_.cells, bE_, Option.map_some, eM_]
    have hM2 : ∀ r : Row, aD_ H (H1 ++ [r]) := fun r => hM1.add _
    refine hk _ _ ?_ rfl (.inr (hnil _ ?_))
    all_goals first | exact (hM2 _).set (by omega) | exact ((hM2 _).set (by omega)).set (by omega) | exact hM2 _
 ·rw [hS, lX_ (by omega)] at hk
  simp (disch := (first | omega | (simp only [ls_, la_, lc_, ln_]; first | done | omega))) only [aK_, go_sem, reduceEqDiff, ↓reduceIte, t1, t2, t4, t7, o0, o1, ca', hlt, eM_]
  refine hk _ _ (hM.set (by omega)) ca ?_
  rcases hF with q | q
  ·exact .inl q
  ·exact .inr ((q.keep fun z q1 q2 => al_ (by omega)).widen (by omega) (by simp))
def c57 : LC :=
 .q [.o [.bx 1 41 0, .s 2 (.alloc 41 z0z)], .o [.s 6 (.build z0z [(0, 1)] []), .s 3 (.alloc 41 z0z), .st 1 3 6], .q [.o [.ki 4 0], .block 0 (.ghost (.loop (.q [.q [.o [.m 7 4, .fa 8 0 1, .ln 9 8, .ll 10 9, .bb 11 .lss
 false 7 10], .k 11 .skip (.exit 0)], .block 1 (.q [.o [.fa 14 0 1, .ln 15 14, .m 16 4, .ia 17 3 15 16, .ld 18 3 17, .s 5 (.alloc 93 (.agg #[.string ⟨#[]⟩, .slice none 0 0, .string ⟨#[]⟩])), .st 3 5 18], .o [.fa 19 1 5,
 .ln 20 19, .c1 21 86 20, .fa 22 1 5, .st 1 22 21], .o [.fa 23 0 3, .ln 24 23, .ld 25 3 5, .s 26 (.buildSlice 93 3 (.agg #[.string ⟨#[]⟩, .slice none 0 0, .string ⟨#[]⟩]) 1 [(0, .tmp 25)]), .ap 27 93 3 56 24 26, .fa 28 0
 3, .st 1 28 27]]), .o [.m 12 4, .bk 13 .add false 12 1, .m 4 13]])))], .o [.ld 29 1 3, .st 1 2 29], .ret]
def Bd_ : LF := ⟨1, 30, c57, [.cell 2 (some 1)]⟩
theorem Eo_ : au_ Tryz.prog Tryz.f57 Bd_ := ah_
theorem hz_ (x : ad_) (hx : ad_.sz x ≤ 1048576) : aQ_ Tryz.prog 57 [.agg (ad_.cells x)] (.agg (ad_.cells x)) (fun a => ∃ l, a = .agg [.own l x.Nodes.length]) := by
 refine bM_ mixed Tryz.func57 Eo_ rfl (fun h0 => ?_)
 have hs := ad_.sz_Nodes hx
 have hl := aA_ hs
 have hm : ∀ e ∈ x.Nodes, ac_.sz e ≤ 1048576 := fun e he => by have := bP_ (f := ac_.sz) he; omega
 simp (disch := omega) only [Bd_, c57, ad_.cells, bE_, Option.map_some, go_sem, Nat.reduceEqDiff, Nat.reduceAdd, ↓reduceIte]
 refine iq_ (h0 ++ [⟨41, 1, [[.list 0 3 (x.Nodes.map ac_.cells)]]⟩, ⟨41, 1, [[.val (.slice none 0 0)]]⟩, ⟨41, 1, [[.own (h0.length + 3) 0]]⟩, ⟨93, 3, []⟩]) (fun t => ld_ (h0 ++ [⟨41, 1, [[.list 0 3 (x.Nodes.map ac_.cells)]]⟩, ⟨41, 1, [[.val (.slice none 0 0)]]⟩]) [] (.ty 41) 1 [] [] 93 3 (h0.length + 3) (by simp) (by simp) (by simp)) ?_
 refine aP_ (fun n t h => ∃ (k : Nat) (done : List (List AV)), t 1 = .ptr h0.length 1 0 0 ∧ t 2 = .ptr (h0.length + 1) 1 0 0 ∧ t 3 = .ptr (h0.length + 2) 1 0 0 ∧ t 4 = .val (.int .i64 k) ∧ aD_ h0 h ∧
  h[h0.length]? = some ⟨41, 1, [[.list 0 3 (x.Nodes.map ac_.cells)]]⟩ ∧ h[h0.length + 1]? = some ⟨41, 1, [[.val (.slice none 0 0)]]⟩ ∧ h[h0.length + 2]? = some ⟨41, 1, [[.own (h0.length + 3) k]]⟩ ∧
  cb_ (h0.length + 3) h 93 3 done ((x.Nodes.take k).map ac_.cells) ∧ done.length = k ∧ n = x.Nodes.length - k ∧ k ≤ x.Nodes.length) x.Nodes.length ?_ ?_
 ·exact ⟨0, [], rfl, rfl, rfl, rfl, aD_.app _ _, by rw [b4_]; rfl, by rw [bs_]; rfl, by rw [bs_]; rfl, cb_.zero (by rw [bs_]; rfl), rfl, rfl, Nat.zero_le _⟩
 rintro J hJ n t h ⟨k, done, t1, t2, t3, t4, hM, o0, o1, o2, hG, hd, rfl, hk⟩
 have o3 := hG.row
 have ml := hM.len
 have gl := hG.lt
 by_cases hlt : k < x.Nodes.length
 ·have hsl := aA_ (ac_.sz_Subs (hm _ (getElem_mem hlt)))
  simp (disch := (first | omega | (simp only [ls_, la_, lc_, ln_]; first | done | omega))) only [aU_, go_sem, Nat.reduceEqDiff, Nat.reduceAdd, ↓reduceIte, t1, t4, o0, hlt, ac_.cells]
  refine bk_ (d9_ x.Nodes[k].Subs hsl) (fun av H1 m1 F1 q1 => ?_)
  obtain ⟨l, rfl⟩ := q1
  have l1 := m1.len
  simp only [la_, lc_, ln_] at l1
  have pN : H1[h.length]? = some ⟨93, 3, [[.val (.string x.Nodes[k].Name), .list 0 1 (x.Nodes[k].Subs.map am_), .val (.string x.Nodes[k].Value)]]⟩ := m1.at (by first | exact aU_ rfl | exact aK_ (by simp))
  have keep : ∀ z, z < h.length → H1[z]? = h[z]? := fun z q => by
   rw [m1.kept z (by simp; omega)]; (repeat (first | rw [al_ (by omega)] | rw [aE_ (by first | omega | (simp only [ls_, la_, lc_, ln_]; omega))]))
  have p0 := (keep _ (by omega)).trans o0
  have p1 := (keep _ (by omega)).trans o1
  have p2 := (keep _ (by omega)).trans o2
  have p3 := (keep _ (by omega)).trans o3
  simp (disch := (first | omega | (simp only [ls_, la_, lc_, ln_]; first | done | omega))) only [al_, aK_, aE_, aU_, ls_, go_sem, Nat.reduceEqDiff, Nat.reduceAdd, Nat.reduceLeDiff, ↓reduceIte, t3, t4, p2, p3, pN, hd]
  repeat (refine And.intro (by first | omega | (exact strs_cellv _) | assumption | (simp; done)) ?_)
  refine ⟨x.Nodes.length - (k + 1), by omega, hJ _ _ _ ⟨k + 1, done ++ [[.val (.string x.Nodes[k].Name), .own l x.Nodes[k].Subs.length, .val (.string x.Nodes[k].Value)]], by simp [upd, t1], by simp [upd, t2], by simp [upd, t3], by simp [upd], ?_, ?_, ?_, ?_, ?_, by simp [hd], rfl, by omega⟩⟩
  ·exact ⟨by simp; omega, fun z q => by (repeat (first | rw [al_ (by omega)] | rw [aE_ (by first | omega | (simp only [ls_]; omega))])); rw [keep z (by omega)]; exact hM.kept z q⟩
  ·(repeat (first | rw [al_ (by omega)] | rw [aE_ (by first | omega | (simp only [ls_]; omega))])); exact p0
  ·(repeat (first | rw [al_ (by omega)] | rw [aE_ (by first | omega | (simp only [ls_]; omega))])); exact p1
  ·first | exact aK_ (by simp; omega) | ((repeat (first | rw [al_ (by omega)] | rw [aE_ (by first | omega | (simp only [ls_, la_, lc_, ln_]; omega))])); exact aK_ (by simp; omega))
  ·rw [take_succ_eq_append_getElem hlt, map_append]
   refine hG.step (H1 := H1.set h.length ⟨93, 3, [[.val (.string x.Nodes[k].Name), .own l x.Nodes[k].Subs.length, .val (.string x.Nodes[k].Value)]]⟩) ((ak_.val _ (ak_.cons (F1.tree.keep fun y q1 q2 => al_ (by simp at q1; omega)) (ak_.val _ (ak_.nil _ _ _)) ⟨by simp; omega, Nat.le_refl _⟩)).widen (by simp) (by simp)) (by simp; omega) (fun y q1 q2 => by rw [al_ (by omega)]; exact keep y q2) (by simp) (fun y q1 q2 => by simp only [ls_] at q2; (repeat (first | rw [al_ (by omega)] | rw [aE_ (by first | omega | (simp only [ls_]; omega))])); try rfl) ?_
   first | exact aK_ (by simp; omega) | ((repeat (first | rw [al_ (by omega)] | rw [aE_ (by first | omega | (simp only [ls_, la_, lc_, ln_]; omega))])); exact aK_ (by simp; omega))
 ·simp (disch := (first | omega | (simp only [ls_, la_, lc_, ln_]; first | done | omega))) only [aK_, go_sem, Nat.reduceEqDiff, ↓reduceIte, t1, t2, t3, t4, o0, o1, o2, hlt]
  have e : k = x.Nodes.length := by omega
  subst e
  rw [take_length] at hG
  have g2 := hG.more (H' := h.set (h0.length + 1) ⟨41, 1, [[.own (h0.length + 3) x.Nodes.length]]⟩) (by simp) (fun y q1 q2 => by rw [getElem?_set_ne (by omega)])
  exact ⟨⟨hM.set (by omega), (ay_.agg (ak_.cons (g2.done hd) (ak_.nil _ _ _) ⟨Nat.le_of_lt g2.lt, Nat.le_refl _⟩)).widen (by omega) (Nat.le_refl _)⟩, _, rfl⟩
theorem vb_ {H X : List Row} {b : AV} {x y : ad_} (h : (b = .list 0 3 (x.Nodes.map ac_.cells) ∧ y = x) ∨ ay_ H.length X.length X (.agg [b]) (.agg (ad_.cells y))) {X' : List Row} (m : ∀ z, H.length ≤ z → z < X.length → X'[z]? = X[z]?) : ca_ X' (.agg [b]) (.agg (ad_.cells y)) := by
 rcases h with ⟨rfl, rfl⟩ | q
 ·exact ca_.same rfl
 ·exact (q.keep fun z q1 q2 => m z q1 q2).arg.any
end Go.Proofs.YtfkddbkjmkceaaaGreatDoor
