/-
 Contracts of functions. Conditions: as each theorem says.
-/
import Derived.Test.YtfkddbkjmkceaaaGreatDoorFnWO
import Derived.Test.YtfkddbkjmkceaaaGreatDoorAwLaw3
namespace Go.Proofs.YtfkddbkjmkceaaaGreatDoor
open Nat (reduceEqDiff reduceLeDiff)
open List
open Go.AW
set_option linter.unusedVariables false
set_option linter.unusedSimpArgs false
set_option maxRecDepth 4000
theorem qA_ {h0 rest hn : List Row} {r r' row : Row} {done ds : List (List AV)} {cs rs : List AV} (h1 : bn_ (h0.length + 1) (h0 ++ r :: rest).length (h0 ++ r :: rest) done ds) (h2 : dw_ (h0 ++ r :: rest).length ((h0 ++ r :: rest) ++ hn) (.agg cs) (.agg rs)) :
 bn_ (h0.length + 1) (h0 ++ r' :: (rest ++ (hn ++ [row]))).length (h0 ++ r' :: (rest ++ (hn ++ [row]))) (done ++ [cs]) (ds ++ [rs]) := by
 have hz := jf_ (r' := r') h1 h2
 have e : h0 ++ r' :: (rest ++ (hn ++ [row])) = (h0 ++ r' :: (rest ++ hn)) ++ [row] := by simp
 rw [e]
 exact (hz.keep fun l _ hl => getElem?_append_left hl).widen (Nat.le_refl _) (by simp)
def c38 : LC :=
 .q [.o [.nl 2], .o [.s 5 (.buildSlice 44 5 (.agg #[.int .i64 0, .string ⟨#[]⟩, .slice none 0 0, .string ⟨#[]⟩, .int .i64 0]) 0 []), .m 3 5], .q [.o [.ki 4 0], .block 0 (.loop (.q [.q [.o [.m 6 4, .m 7 0, .ll 8 7, .bb 9
 .lss false 6 8], .k 9 .skip (.exit 0)], .block 1 (.o [.m 12 3, .m 13 0, .m 14 4, .ia 15 5 13 14, .ld 16 5 15, .c1 17 39 16, .s 18 (.buildSlice 44 5 (.agg #[.int .i64 0, .string ⟨#[]⟩, .slice none 0 0, .string ⟨#[]⟩, .int
 .i64 0]) 1 [(0, .tmp 17)]), .ap 19 44 5 72 12 18, .m 3 19]), .o [.m 10 4, .bk 11 .add false 10 1, .m 4 11]]))], .o [.m 20 3, .m 2 20], .ret]
def Cw_ : LF := ⟨1, 21, c38, [.tmp 2]⟩
theorem Dp_ : au_ Tryz.prog Tryz.f38 Cw_ := ah_
theorem kT_ (xs : List ab_) (hs : an_ ab_.sz xs ≤ 1048576) {h0 : List Row} {K : AV → List Row → Prop} (hK : ∀ l (H' : List Row) (done : List (List AV)), aD_ h0 H' → h0.length ≤ l → cb_ l H' 44 5 done (xs.map ab_.cells) → done.length = xs.length → K (.own l xs.length) H') :
 callSem Tryz.prog 38 [.list 0 5 (xs.map ab_.cells)] h0 K := by
 refine bg_ mixed Tryz.func38 Dp_ (bT_ rfl ?_)
 have hx := aA_ hs
 have hm : ∀ x ∈ xs, ab_.sz x ≤ 1048576 := fun x hx => by have := bP_ (f := ab_.sz) hx; omega
 simp (disch := omega) only [Cw_, c38, go_sem, ↓reduceIte]
 refine aP_ (fun n t h => ∃ (k : Nat) (done : List (List AV)) (rest : List Row), t 0 = .list 0 5 (xs.map ab_.cells) ∧ t 3 = .own h0.length k ∧ t 4 = .val (.int .i64 k) ∧ h = h0 ++ ⟨44, 5, done⟩ :: rest ∧ n = xs.length - k ∧ k ≤ xs.length ∧ done.length = k ∧ bn_ (h0.length + 1) h.length h done ((xs.take k).map ab_.cells)) xs.length ?_ ?_
 ·exact ⟨0, [], [], rfl, rfl, rfl, rfl, rfl, Nat.zero_le _, rfl, .nil _ _ _⟩
 rintro J hJ n t h ⟨k, done, rest, t0, t3, t4, rfl, rfl, hk, hd, hF⟩
 by_cases hlt : k < xs.length
 ·have hltI : (k : Int) < xs.length := by omega
  simp (disch := omega) only [t0, t3, t4, hltI, ab_.cells, ag_, go_sem, reduceEqDiff, Nat.reduceAdd, reduceCtorEq, ↓reduceIte]
  refine hJ_ xs[k] (hm _ (getElem_mem hlt)) _ _ (fun av hn hf hq => ?_)
  obtain ⟨l, rfl⟩ := hq
  simp (disch := omega) only [t4, hd, append_assoc, go_sem, reduceEqDiff, Nat.reduceAdd, reduceLeDiff, ↓reduceIte]
  refine ⟨by omega, by omega, xs.length - (k + 1), by omega, hJ _ _ _ ⟨k + 1, done ++ [[.val (.int .i64 xs[k].Kind), .val (.string xs[k].Name), .own l xs[k].Subs.length, .val (.string xs[k].Value), .val (.int .i64 xs[k].N)]], _, by simp [upd, t0], by simp [upd], by simp [upd], rfl, rfl, by omega, by simp [hd], ?_⟩⟩
  rw [take_succ_eq_append_getElem hlt, map_append]
  exact qA_ hF hf
 ·have hltI : ¬ (k : Int) < xs.length := by omega
  simp (disch := omega) only [t0, t3, t4, hltI, ag_, go_sem, reduceEqDiff, reduceCtorEq, ↓reduceIte]
  rw [take_of_length_le (by omega)] at hF
  have e : k = xs.length := by omega
  rw [e]
  exact hK _ _ _ (aD_.app _ _) (Nat.le_refl _) ⟨by rw [b4_]; rfl, hF⟩ (by omega)
def c48 : LC :=
 .q [.o [.bx 1 36 0, .s 2 (.alloc 36 z1z)], .o [.fa 6 0 1, .ln 7 6, .fa 8 1 1, .ln 9 8, .s 10 (.build z1z [(0, 1), (1, 1), (2, 1)] [(0, .tmp 7), (1, .tmp 9)]), .s 3 (.alloc 36 z1z), .st 3 3 10], .q [.o [.fa 11 2 1, .ln 12
 11, .ll 13 12, .ki 14 0], .block 0 (.ghost (.loop (.q [.o [.bb 15 .lss false 14 13], .k 15 .skip (.exit 0), .block 1 (.q [.o [.ia 16 5 12 14, .ld 17 5 16, .s 5 (.alloc 44 (.agg #[.int .i64 0, .string ⟨#[]⟩, .slice none 0
 0, .string ⟨#[]⟩, .int .i64 0])), .st 5 5 17], .gops [.fa 18 2 3, .ln 19 18, .ld 20 5 5] [(.c1 21 49 20, [.fa 18 2 3, .ln 19 18]), (.s 22 (.buildSlice 44 5 (.agg #[.int .i64 0, .string ⟨#[]⟩, .slice none 0 0, .string
 ⟨#[]⟩, .int .i64 0]) 1 [(0, .tmp 21)]), [.fa 18 2 3, .ln 19 18]), (.ap 23 44 5 72 19 22, []), (.fa 24 2 3, []), (.st 1 24 23, [])]]), .o [.bk 25 .add false 14 1, .m 14 25]])))], .o [.ld 26 3 3, .st 3 2 26], .ret]
def Co_ : LF := ⟨1, 27, c48, [.cell 2 (some 3)]⟩
theorem C4_ : au_ Tryz.prog Tryz.f48 Co_ := ah_
theorem kO_ (x : av_) (hx : av_.sz x ≤ 1048576) {h0 : List Row} {K : AV → List Row → Prop} (hK : ∀ l (H' : List Row) (done : List (List AV)), aD_ h0 H' → h0.length ≤ l → cb_ l H' 44 5 done (x.Events.map ab_.cells) → done.length = x.Events.length → K (.agg [.val (.int .i64 x.Depth), .val (.int .i64 x.Restarts), .own l x.Events.length]) H') :
 callSem Tryz.prog 48 [.agg (av_.cells x)] h0 K := by
 refine bg_ mixed Tryz.func48 C4_ (bT_ rfl ?_)
 have hs := av_.sz_Events hx
 have hl := aA_ hs
 have hm : ∀ e ∈ x.Events, ab_.sz e ≤ 1048576 := fun e he => by have := bP_ (f := ab_.sz) he; omega
 simp (disch := omega) only [Co_, c48, av_.cells, bE_, Option.map_some, go_sem, reduceEqDiff, Nat.reduceAdd, reduceLeDiff, ↓reduceIte]
 refine iq_ (h0 ++ [⟨36, 3, [[.val (.int .i64 x.Depth), .val (.int .i64 x.Restarts), .list 0 5 (x.Events.map ab_.cells)]]⟩, ⟨36, 3, [[.val (.int .i64 0), .val (.int .i64 0), .val (.slice none 0 0)]]⟩, ⟨36, 3, [[.val (.int .i64 x.Depth), .val (.int .i64 x.Restarts), .own (h0.length + 3) 0]]⟩, ⟨44, 5, []⟩]) (fun t => ld_ (h0 ++ [⟨36, 3, [[.val (.int .i64 x.Depth), .val (.int .i64 x.Restarts), .list 0 5 (x.Events.map ab_.cells)]]⟩, ⟨36, 3, [[.val (.int .i64 0), .val (.int .i64 0), .val (.slice none 0 0)]]⟩]) [] (.ty 36) 3 [.val (.int .i64 x.Depth), .val (.int .i64 x.Restarts)] [] 44 5 (h0.length + 3) (by simp) (by simp) (by simp)) ?_
 refine aP_ (fun n t h => ∃ (k : Nat) (done : List (List AV)), t 2 = .ptr (h0.length + 1) 1 0 0 ∧ t 3 = .ptr (h0.length + 2) 1 0 0 ∧ t 12 = .list 0 5 (x.Events.map ab_.cells) ∧ t 13 = .val (.int .i64 x.Events.length) ∧ t 14 = .val (.int .i64 k) ∧ aD_ h0 h ∧
  h[h0.length + 1]? = some ⟨36, 3, [[.val (.int .i64 0), .val (.int .i64 0), .val (.slice none 0 0)]]⟩ ∧ h[h0.length + 2]? = some ⟨36, 3, [[.val (.int .i64 x.Depth), .val (.int .i64 x.Restarts), .own (h0.length + 3) k]]⟩ ∧
  cb_ (h0.length + 3) h 44 5 done ((x.Events.take k).map ab_.cells) ∧ done.length = k ∧ n = x.Events.length - k ∧ k ≤ x.Events.length) x.Events.length ?_ ?_
 ·exact ⟨0, [], rfl, rfl, rfl, rfl, rfl, aD_.app _ _, by rw [bs_]; rfl, by rw [bs_]; rfl, cb_.zero (by rw [bs_]; rfl), rfl, rfl, Nat.zero_le _⟩
 rintro J hJ n t h ⟨k, done, t2, t3, t12, t13, t14, hM, o1, o2, hG, hd, rfl, hk⟩
 have o3 := hG.row
 by_cases hlt : k < x.Events.length
 ·have w2 := fun l => as_ (l := l) o2
  have ml := hM.len
  have gl := hG.lt
  simp (disch := omega) only [t2, t3, t12, t13, t14, o2, w2, hlt, ab_.cells, ag_, go_sem, reduceEqDiff, Nat.reduceAdd, ↓reduceIte]
  refine bk_ (gu_ x.Events[k] (hm _ (getElem_mem hlt))) (fun av H1 m1 F1 q1 => ?_)
  obtain ⟨l, rfl⟩ := q1
  have p1 := m1.at (as_ o1)
  have p2 := m1.at (as_ o2)
  have p3 := m1.at (as_ o3)
  have v1 := fun l => as_ (l := l) p1
  have v2 := fun l => as_ (l := l) p2
  have v3 := fun l => as_ (l := l) p3
  have l1 := m1.len
  simp only [la_, lc_, ln_] at l1
  have z2 := fun r l => rF_ (l := l) (i := h0.length + 3) p2 r (by omega)
  simp (disch := omega) only [t3, t14, p2, v2, v3, z2, hd, qr_, set_append_left, go_sem, reduceEqDiff, Nat.reduceAdd, reduceLeDiff, ↓reduceIte]
  refine ⟨by omega, by omega, x.Events.length - (k + 1), by omega, hJ _ _ _ ⟨k + 1, done ++ [[.val (.int .i64 x.Events[k].Kind), .val (.string x.Events[k].Name), .own l x.Events[k].Subs.length, .val (.string x.Events[k].Value), .val (.int .i64 x.Events[k].N)]], by simp [upd, t2], by simp [upd, t3], by simp [upd, t12], by simp [upd, t13], by simp [upd], ?_, ?_, ?_, ?_, ?_, rfl, by omega⟩⟩
  ·exact ((((hM.add _).trans m1).set (by omega)).set (by omega)).add _
  ·exact as_ (by rw [getElem?_set_ne (by omega), getElem?_set_ne (by omega)]; exact p1)
  ·exact rT_ (by rw [getElem?_set_ne (by omega)]; exact p2) _
  ·rw [take_succ_eq_append_getElem hlt, map_append]
   refine (hG.more (H' := h ++ [_]) (by simp) (fun y q1 q2 => getElem?_append_left q2)).step F1.tree.unagg m1.len (fun y q1 q2 => m1.kept y q2) (by simp) (fun y q1 q2 => ?_) ?_
   ·rw [getElem?_append_left (by simpa using q2), getElem?_set_ne (by omega), getElem?_set_ne (by omega)]
   ·exact as_ (by rw [getElem?_set_ne (by omega)]; exact fb_ p3 _)
  ·simp [hd]
 ·have u1 := fun r => fb_ o1 r
  simp (disch := omega) only [t2, t3, t12, t13, t14, o1, o2, u1, hlt, ag_, go_sem, reduceEqDiff, Nat.reduceAdd, ↓reduceIte]
  have e : k = x.Events.length := by omega
  subst e
  rw [take_length] at hG
  exact hK _ _ _ (hM.set (by omega)) (by omega) (hG.more (by simp) (fun y q1 q2 => by rw [getElem?_set_ne (by omega)])) hd
def ck_ : av_ := ⟨0, 0, []⟩
theorem kl_ : av_.sz ck_ ≤ 1048576 := by simp [av_.sz, ck_, an_, b1_]
theorem je_ {t : av_} (h : c9_ t = true) : dk_ t.Events = true := by
 simp only [c9_, Bool.and_eq_true] at h
 first | exact h.1.2 | exact h.2.1 | exact h.1.1.2 | exact h.2 | (simp_all; done)
section
variable {lo hi : Nat} {H : List Row} {s : AV} {es : List ab_}
end
theorem d0_ {t : Nat → AV} {h : List Row} (a b s u : Nat) (n m : Option Nat) (K : AV → List Row → Prop) : cB_ [.cell a n, .cell b m, .tmp s, .tmp u] K .ret t h = match at_ t h (.load n (.tmp a)) with | some x => (match at_ t h (.load m (.tmp b)) with | some y => K (.tup [x, y, t s, t u]) h | none => False) | none => False := by
 simp only [cB_, dx_, mapM_cons, mapM_nil]
 cases at_ t h (.load n (.tmp a)) <;> cases at_ t h (.load m (.tmp b)) <;> simp [cY_]
def aC_ (x : ad_) (t : av_) : av_ × ad_ × List az_ × Int :=
 if (aW_ x && c9_ t) = true then
  (if t.Depth = 0 then (ck_, ⟨[]⟩, [], 17) else if 1 < t.Depth then (⟨t.Depth - 1, t.Restarts, t.Events⟩, x, [], 0)
   else if (bt_ x t.Events 0).2.2 = 0 then (ck_, (bt_ x t.Events 0).1, cD_ t.Events, 0) else (ck_, ⟨[]⟩, [], (bt_ x t.Events 0).2.2))
 else (ck_, ⟨[]⟩, [], 1)
abbrev hv_ (p : av_ × ad_ × List az_ × Int) : AV := .tup [.agg (av_.cells p.1), .agg (ad_.cells p.2.1), .list 0 4 (p.2.2.1.map az_.cells), .val (.int .i64 p.2.2.2)]
def rS_ (a : AV) : Prop := ∃ d r s b c, s.cell = true ∧ b.cell = true ∧ ∃ v, a = .tup [.agg [.val (.int .i64 d), .val (.int .i64 r), s], .agg [b], c, .val (.int .i64 v)]
section
variable {lo hi m1 m2 : Nat} {H : List Row} {s b c : AV} {es : List ab_} {y : ad_} {cs : List az_}
theorem jy_ (hT : ay_ lo m1 H s (.list 0 5 (es.map ab_.cells))) (hX : ay_ m1 m2 H (.agg [b]) (.agg (ad_.cells y))) (hC : ay_ m2 hi H c (.list 0 4 (cs.map az_.cells))) (h1 : lo ≤ m1) (h2 : m1 ≤ m2) (h3 : m2 ≤ hi) (d r v : Int) :
 ay_ lo hi H (.tup [.agg [.val (.int .i64 d), .val (.int .i64 r), s], .agg [b], c, .val (.int .i64 v)]) (hv_ (⟨d, r, es⟩, y, cs, v)) :=
 ay_.tup (ak_.cons (ay_.agg (ak_.val _ (ak_.val _ (ak_.cons hT (ak_.nil _ _ _) ⟨h1, Nat.le_refl _⟩)))) (ak_.cons hX (ak_.cons hC (ak_.val _ (ak_.nil _ _ _)) ⟨h3, Nat.le_refl _⟩) ⟨h2, h3⟩) ⟨h1, Nat.le_trans h2 h3⟩)
theorem gi_ (hC : ay_ lo hi H c (.list 0 4 [])) (h : lo ≤ hi) (v : Int) : ay_ lo hi H (.tup [.agg [.val (.int .i64 0), .val (.int .i64 0), .val (.slice none 0 0)], .agg [.val (.slice none 0 0)], c, .val (.int .i64 v)]) (hv_ (ck_, ⟨[]⟩, [], v)) :=
 jy_ (es := []) (m1 := lo) (m2 := lo) (cs := []) (ay_.mknil _ _ _ _) (k0_ (Nat.le_refl _)) hC (Nat.le_refl _) (Nat.le_refl _) h 0 0 v
theorem mI_ {l : Nat} {E : Tag} (hl : H[l]? = some ⟨E, 4, []⟩) (h1 : lo ≤ l) (h2 : l + 1 ≤ hi) : ay_ lo hi H (.own l 0) (.list 0 4 []) := ay_.mkown (lo := l + 1) (bn_.nil _ _ _) hl rfl h1 (Nat.lt_succ_self _) h2
end
theorem jP_ {x : ad_} {t : av_} (hx : ad_.sz x ≤ 1048576) (ht : av_.sz t ≤ 1048576) : av_.sz (aC_ x t).1 ≤ 1048576 ∧ ad_.sz (aC_ x t).2.1 ≤ 1048576 ∧ an_ az_.sz (aC_ x t).2.2.1 ≤ 1048576 := by
 have z1 : an_ az_.sz [] ≤ 1048576 := by simp [an_, b1_]
 have z2 := cJ_ hA_
 unfold aC_
 split
 ·rename_i h
  simp only [Bool.and_eq_true] at h
  have hn := (iN_ (je_ h.2)).2
  split
  ·exact ⟨kl_, z2, z1⟩
  split
  ·exact ⟨ht, hx, z1⟩
  split
  ·exact ⟨kl_, cJ_ (kn_ t.Events x 0 h.1 hn), Nat.le_trans (tJ_ _) (av_.sz_Events ht)⟩
  ·exact ⟨kl_, z2, z1⟩
 ·exact ⟨kl_, z2, z1⟩
theorem lU_ {t : av_} (h : c9_ t = true) : 0 ≤ t.Depth ∧ t.Depth ≤ 3 := by
 simp only [c9_, ds_, Bool.and_eq_true, decide_eq_true_eq] at h
 omega
def c21 : LC :=
 .q [.o [.bx 2 41 0, .bx 3 36 1, .s 4 (.alloc 36 z1z), .s 5 (.alloc 41 z0z), .nl 6, .ki 7 0], .block 0 (.q [.o [.ld 13 1 2, .c1 14 43 13, .nt 15 14, .m 16 15, .gl 17 16 false 3 3, .gc 18 16 false 44 17, .gu 19 16 false
 18, .pt 20 16 19, .m 12 20], .k 12 (.q [.o [.s 21 (.build z1z [(0, 1), (1, 1), (2, 1)] []), .s 22 (.build z0z [(0, 1)] []), .st 3 4 21, .st 1 5 22, .nl 6, .ki 7 1], .ret]) (.q [.o [.fa 24 0 3, .ln 25 24, .bk 26 .eql
 false 25 0, .m 23 26], .k 23 (.q [.o [.s 27 (.build z1z [(0, 1), (1, 1), (2, 1)] []), .s 28 (.build z0z [(0, 1)] []), .st 3 4 27, .st 1 5 28, .nl 6, .ki 7 17], .ret]) (.q [.o [.fa 30 0 3, .ln 31 30, .bk 32 .gtr false 31
 1, .m 29 32], .k 29 (.q [.o [.ld 33 3 3, .c1 34 48 33, .s 8 (.alloc 36 z1z), .st 3 8 34], .o [.fa 35 0 8, .ln 36 35, .bk 37 .sub false 36 1, .fa 38 0 8, .st 1 38 37], .gops [.ld 39 3 8, .ld 40 1 2] [(.c1 41 60 40, [.ld
 39 3 8]), (.st 3 4 39, []), (.st 1 5 41, []), (.nl 6, []), (.ki 7 0, [])], .ret]) .skip])])]), .o [.ld 43 1 2, .fa 44 2 3, .ln 45 44, .c2 46 61 43 45, .m 42 46, .ex 47 42 0, .ex 48 42 1, .ex 49 42 2, .s 9 (.alloc 41
 z0z), .st 1 9 47, .m 10 48, .m 11 49], .q [.o [.m 50 11, .bk 51 .neq false 50 0], .k 51 (.q [.o [.s 52 (.build z1z [(0, 1), (1, 1), (2, 1)] []), .s 53 (.build z0z [(0, 1)] []), .m 54 11, .st 3 4 52, .st 1 5 53, .nl 6, .m
 7 54], .ret]) .skip], .gops [.s 55 (.build z1z [(0, 1), (1, 1), (2, 1)] []), .ld 56 1 9, .fa 57 2 3, .ln 58 57] [(.c1 59 62 58, [.s 55 (.build z1z [(0, 1), (1, 1), (2, 1)] []), .ld 56 1 9]), (.st 3 4 55, [.ld 56 1 9]),
 (.st 1 5 56, []), (.m 6 59, []), (.ki 7 0, [])], .ret]
def AH_ : LF := ⟨2, 60, c21, [.cell 4 (some 3), .cell 5 (some 1), .tmp 6, .tmp 7]⟩
theorem DE_ : au_ Tryz.prog Tryz.f21 AH_ := ah_
theorem ei_ (x : ad_) (t : av_) (hx : ad_.sz x ≤ 1048576) (ht : av_.sz t ≤ 1048576) : aQ_ Tryz.prog 21 [.agg (ad_.cells x), .agg (av_.cells t)] (hv_ (aC_ x t)) rS_ := by
 refine bM_ mixed Tryz.func21 DE_ rfl (fun h0 => ?_)
 have hrp : aQ_ Tryz.prog 61 [.agg [.list 0 3 (x.Nodes.map ac_.cells)], .list 0 5 (t.Events.map ab_.cells)] (nG_ (dY_ x t.Events)) t1_ := lK_ x t.Events hx (av_.sz_Events ht)
 have hct : aQ_ Tryz.prog 60 [.agg [.list 0 3 (x.Nodes.map ac_.cells)]] (.agg (ad_.cells x)) (fun a => ∃ l, a = .agg [.own l x.Nodes.length]) := (hL_ x hx).call fun a H ⟨l, q, _⟩ => ⟨l, q⟩
 simp (disch := (first | omega | (simp only [ls_, la_, lc_, ln_]; first | done | omega))) only [aU_, go_sem, reduceEqDiff, Nat.reduceAdd, ↓reduceIte, AH_, c21, ad_.cells, av_.cells]
 refine aa_.call (gT_ x hx _) ?_
 by_cases q1 : aW_ x = true
 case neg =>
  have q1' : aW_ x = false := by simpa using q1
  have hR : aC_ x t = (ck_, ⟨[]⟩, [], 1) := by simp [aC_, q1']
  simp (disch := (first | omega | (simp only [ls_, la_, lc_, ln_]; first | done | omega))) only [eG_, gf_, go_sem, reduceEqDiff, Nat.reduceAdd, ↓reduceIte, q1', bE_, Option.map_some, d0_]
  rw [hR]
  exact ⟨⟨aD_.app _ _, gi_ (ay_.mknil _ _ _ _) (by simp) _⟩, _, _, _, _, _, rfl, rfl, _, rfl⟩
 simp (disch := (first | omega | (simp only [ls_, la_, lc_, ln_]; first | done | omega))) only [cc_, go_sem, reduceEqDiff, Nat.reduceAdd, ↓reduceIte, q1]
 refine aa_.call (nb_ t ht _) ?_
 by_cases q2 : c9_ t = true
 case neg =>
  have q2' : c9_ t = false := by simpa using q2
  have hR : aC_ x t = (ck_, ⟨[]⟩, [], 1) := by simp [aC_, q2']
  simp (disch := (first | omega | (simp only [ls_, la_, lc_, ln_]; first | done | omega))) only [eG_, gf_, go_sem, reduceEqDiff, Nat.reduceAdd, ↓reduceIte, q2', bE_, Option.map_some, d0_]
  rw [hR]
  exact ⟨⟨aD_.app _ _, gi_ (ay_.mknil _ _ _ _) (by simp) _⟩, _, _, _, _, _, rfl, rfl, _, rfl⟩
 have hdp := lU_ q2
 by_cases q4 : t.Depth = 0
 ·have q4' : (t.Depth = 0) = True := eq_true q4
  have hR : aC_ x t = (ck_, ⟨[]⟩, [], 17) := by simp [aC_, q1, q2, q4]
  simp (disch := (first | omega | (simp only [ls_, la_, lc_, ln_]; first | done | omega))) only [cc_, eG_, gf_, go_sem, reduceEqDiff, Nat.reduceAdd, ↓reduceIte, q2, q4', bE_, Option.map_some, d0_]
  rw [hR]
  exact ⟨⟨aD_.app _ _, gi_ (ay_.mknil _ _ _ _) (by simp) _⟩, _, _, _, _, _, rfl, rfl, _, rfl⟩
 have q4' : (t.Depth = 0) = False := eq_false q4
 by_cases q5 : 1 < t.Depth
 ·have q5' : (1 < t.Depth) = True := eq_true q5
  have hR : aC_ x t = (⟨t.Depth - 1, t.Restarts, t.Events⟩, x, [], 0) := by simp [aC_, q1, q2, q4, q5]
  rw [hR]
  simp (disch := (first | omega | (simp only [ls_, la_, lc_, ln_]; first | done | omega))) only [cc_, go_sem, reduceEqDiff, Nat.reduceAdd, ↓reduceIte, q2, q4', q5']
  refine kO_ t ht (fun l H3 done m3 hl3 G3 hd3 => ?_)
  have l3 := m3.len
  simp only [la_, lc_, ln_] at l3 hl3
  have g3 := G3.lt
  have p0 := m3.at (i := h0.length) (by rw [b4_]; rfl)
  have p2 := m3.at (i := h0.length + 2) (by rw [bs_]; rfl)
  have p3 := m3.at (i := h0.length + 3) (by rw [bs_]; rfl)
  have m3' : aD_ h0 H3 := (aD_.app h0 _).trans m3
  simp (disch := (first | omega | (simp only [ls_, la_, lc_, ln_]; first | done | omega))) only [aE_, aU_, go_sem, reduceEqDiff, Nat.reduceAdd, reduceLeDiff, ↓reduceIte, p0, aq_]
  refine bk_ hct (fun av H4 m4 F4 q7 => ?_)
  obtain ⟨l4, rfl⟩ := q7
  have y4 := m4.len
  simp only [la_, lc_, ln_] at y4
  have keep : ∀ z, z < H3.length → H4[z]? = H3[z]? := fun z q => by
   rw [m4.kept z (by simp; omega)]; (repeat (first | rw [al_ (by omega)] | rw [aE_ (by first | omega | (simp only [ls_, la_, lc_, ln_]; omega))]))
  have u2 := (keep _ (by omega)).trans p2
  have u3 := (keep _ (by omega)).trans p3
  have u0 : H4[H3.length]? = some ⟨36, 3, [[.val (.int .i64 (t.Depth - 1)), .val (.int .i64 t.Restarts), .own l t.Events.length]]⟩ := m4.at (by first | exact aU_ rfl | exact aK_ (by simp))
  have hF4 := F4.tree
  simp only [la_, lc_, ln_] at hF4
  simp (disch := (first | omega | (simp only [ls_, la_, lc_, ln_]; first | done | omega))) only [al_, aK_, go_sem, reduceEqDiff, Nat.reduceAdd, ↓reduceIte, u0, u2, u3, d0_]
  have hM : aD_ h0 H4 := ⟨by omega, fun z q => (keep z (by omega)).trans (m3'.kept z q)⟩
  refine ⟨⟨(hM.set (by omega)).set (by omega), jy_ (m1 := H3.length) (m2 := H4.length) ?_ ?_ (ay_.mknil _ _ _ _) (by omega) (by omega) (by simp) _ _ _⟩, _, _, _, _, _, rfl, rfl, _, rfl⟩
  ·refine ((G3.done hd3).keep (H' := ((H4.set (h0.length + 2) _).set (h0.length + 3) _)) fun z z1 z2 => ?_).widen (by omega) (Nat.le_refl _)
   rw [al_ (by omega), al_ (by omega)]; exact keep z z2
  ·exact (hF4.keep fun z z1 z2 => by rw [al_ (by omega), al_ (by omega)]).widen (by omega) (Nat.le_refl _)
 have q5' : (1 < t.Depth) = False := eq_false q5
 have hrr := m1_ q1 (je_ q2)
 rw [hrr] at hrp
 simp (disch := (first | omega | (simp only [ls_, la_, lc_, ln_]; first | done | omega))) only [aU_, cc_, go_sem, reduceEqDiff, ↓reduceIte, q2, q4', q5']
 refine bk_ hrp (fun av H1 m1 F1 q3 => ?_)
 obtain ⟨b, cb, v, v2, rfl⟩ := q3
 obtain ⟨G, hv, hv2⟩ := F1.three
 simp only [AV.val.injEq, Value.int.injEq, true_and] at hv hv2
 subst hv hv2
 have cb' := cb
 simp only [AV.cell, Value.oneCell'] at cb'
 have l1 := m1.len
 simp only [la_, lc_, ln_] at l1
 have m0 : aD_ h0 H1 := (aD_.app h0 _).trans m1
 have p1 := m1.at (i := h0.length + 1) (by rw [bs_]; rfl)
 have p2 := m1.at (i := h0.length + 2) (by rw [bs_]; rfl)
 have p3 := m1.at (i := h0.length + 3) (by rw [bs_]; rfl)
 by_cases hc : (bt_ x t.Events 0).2.2 = 0
 case neg =>
  have hc' : ((bt_ x t.Events 0).2.2 = 0) = False := eq_false hc
  have hR : aC_ x t = (ck_, ⟨[]⟩, [], (bt_ x t.Events 0).2.2) := by simp [aC_, q1, q2, q4, q5, hc]
  simp (disch := (first | omega | (simp only [ls_, la_, lc_, ln_]; first | done | omega))) only [al_, aK_, aE_, aU_, go_sem, reduceEqDiff, Nat.reduceAdd, ↓reduceIte, p2, p3, cb', hc', bE_, Option.map_some, d0_]
  rw [hR]
  exact ⟨⟨by exact ((m0.add _).set (by omega)).set (by omega), gi_ (ay_.mknil _ _ _ _) (by simp; omega) _⟩, _, _, _, _, _, rfl, rfl, _, rfl⟩
 have hc' : ((bt_ x t.Events 0).2.2 = 0) = True := eq_true hc
 have hR : aC_ x t = (ck_, (bt_ x t.Events 0).1, cD_ t.Events, 0) := by simp [aC_, q1, q2, q4, q5, hc]
 rw [hR]
 simp (disch := (first | omega | (simp only [ls_, la_, lc_, ln_]; first | done | omega))) only [aE_, aU_, go_sem, reduceEqDiff, ↓reduceIte, p1, cb', hc, bE_, Option.map_some]
 refine bk_ (j7_ t.Events (av_.sz_Events ht)) (fun av H2 m2 F2 q6 => ?_)
 obtain ⟨l2, rfl⟩ := q6
 have y2 := m2.len
 simp only [la_, lc_, ln_] at y2
 have r2 := m2.at ((aD_.row H1 _).at p2)
 have r3 := m2.at ((aD_.row H1 _).at p3)
 have rb := m2.at (jA_ H1 ⟨41, 1, [[b]]⟩)
 simp (disch := (first | omega | (simp only [ls_, la_, lc_, ln_]; first | done | omega))) only [al_, aK_, go_sem, reduceEqDiff, Nat.reduceAdd, ↓reduceIte, r2, r3, rb, cb', bE_, Option.map_some, d0_]
 have hM : aD_ h0 H2 := (m0.add _).trans m2
 have hF2 := F2.tree
 simp only [la_, lc_, ln_] at hF2
 refine ⟨⟨(hM.set (by omega)).set (by omega), jy_ (es := []) (m1 := h0.length) (m2 := H1.length) (ay_.mknil _ _ _ _) ?_ ?_ (Nat.le_refl _) (by omega) (by simp; omega) 0 0 0⟩, _, _, _, _, _, rfl, cb, _, rfl⟩
 ·exact (G.tree.keep fun z z1 z2 => by
   simp only [la_, lc_, ln_] at z1
   rw [al_ (by omega), al_ (by omega), m2.kept z (by simp; omega)]; exact aE_ z2).widen (by simp) (Nat.le_refl _)
 ·exact (hF2.keep fun z z1 z2 => by rw [al_ (by omega), al_ (by omega)]).widen (by omega) (by simp)
def c20 : LC :=
 .q [.o [.bx 2 41 0, .bx 3 36 1, .s 4 (.alloc 36 z1z), .s 5 (.alloc 41 z0z), .nl 6, .ki 7 0], .q [.o [.ld 11 1 2, .c1 12 29 11, .nt 13 12, .m 14 13, .gl 15 14 false 3 3, .gc 16 14 false 30 15, .gu 17 14 false 16, .pt 18
 14 17], .k 18 (.q [.o [.s 19 (.build z1z [(0, 1), (1, 1), (2, 1)] []), .s 20 (.build z0z [(0, 1)] []), .s 21 (.buildSlice 88 4 (.agg #[.int .i64 0, .string ⟨#[]⟩, .slice none 0 0, .string ⟨#[]⟩]) 0 []), .st 3 4 19, .st 1
 5 20, .m 6 21, .ki 7 1], .ret]) .skip], .q [.o [.fa 22 0 3, .ln 23 22, .bk 24 .eql false 23 0], .k 24 (.q [.o [.s 25 (.build z1z [(0, 1), (1, 1), (2, 1)] []), .s 26 (.build z0z [(0, 1)] []), .s 27 (.buildSlice 88 4 (.agg
 #[.int .i64 0, .string ⟨#[]⟩, .slice none 0 0, .string ⟨#[]⟩]) 0 []), .st 3 4 25, .st 1 5 26, .m 6 27, .ki 7 17], .ret]) .skip], .q [.o [.fa 28 0 3, .ln 29 28, .bk 30 .gtr false 29 1], .k 30 (.q [.gops [.fa 31 0 3, .ln
 32 31, .bk 33 .sub false 32 1, .fa 34 1 3, .ln 35 34, .fa 36 2 3, .ln 37 36, .ld 40 1 2] [(.c1 38 38 37, [.fa 31 0 3, .ln 32 31, .bk 33 .sub false 32 1, .fa 34 1 3, .ln 35 34, .ld 40 1 2]), (.s 39 (.build z1z [(0, 1),
 (1, 1), (2, 1)] [(0, .tmp 33), (1, .tmp 35), (2, .tmp 38)]), [.ld 40 1 2]), (.c1 41 57 40, [.fa 31 0 3, .ln 32 31, .bk 33 .sub false 32 1, .fa 34 1 3, .ln 35 34]), (.st 3 4 39, []), (.st 1 5 41, []), (.s 42 (.buildSlice
 88 4 (.agg #[.int .i64 0, .string ⟨#[]⟩, .slice none 0 0, .string ⟨#[]⟩]) 0 []), [.fa 31 0 3, .ln 32 31, .bk 33 .sub false 32 1, .fa 34 1 3, .ln 35 34, .fa 36 2 3, .ln 37 36, .ld 40 1 2]), (.m 6 42, []), (.ki 7 0, [])],
 .ret]) .skip], .o [.ld 44 1 2, .fa 45 2 3, .ln 46 45, .c2 47 58 44 46, .m 43 47, .ex 48 43 0, .ex 49 43 1, .ex 50 43 2, .s 8 (.alloc 41 z0z), .st 1 8 48, .m 9 49, .m 10 50], .q [.o [.m 51 10, .bk 52 .neq false 51 0], .k
 52 (.q [.o [.s 53 (.build z1z [(0, 1), (1, 1), (2, 1)] []), .s 54 (.build z0z [(0, 1)] []), .s 55 (.buildSlice 88 4 (.agg #[.int .i64 0, .string ⟨#[]⟩, .slice none 0 0, .string ⟨#[]⟩]) 0 []), .m 56 10, .st 3 4 53, .st 1
 5 54, .m 6 55, .m 7 56], .ret]) .skip], .gops [.s 57 (.build z1z [(0, 1), (1, 1), (2, 1)] []), .ld 58 1 8, .fa 60 2 3, .ln 61 60] [(.c1 59 57 58, [.s 57 (.build z1z [(0, 1), (1, 1), (2, 1)] []), .fa 60 2 3, .ln 61 60]),
 (.c1 62 59 61, [.s 57 (.build z1z [(0, 1), (1, 1), (2, 1)] [])]), (.st 3 4 57, []), (.st 1 5 59, []), (.m 6 62, []), (.ki 7 0, [])], .ret]
def zG_ : LF := ⟨2, 63, c20, [.cell 4 (some 3), .cell 5 (some 1), .tmp 6, .tmp 7]⟩
theorem DY_ : au_ Tryz.prog Tryz.f20 zG_ := ah_
theorem jd_ (x : ad_) (t : av_) (hx : ad_.sz x ≤ 1048576) (ht : av_.sz t ≤ 1048576) : aQ_ Tryz.prog 20 [.agg (ad_.cells x), .agg (av_.cells t)] (hv_ (aC_ x t)) rS_ := by
 refine bM_ mixed Tryz.func20 DY_ rfl (fun h0 => ?_)
 have hct : aQ_ Tryz.prog 57 [.agg [.list 0 3 (x.Nodes.map ac_.cells)]] (.agg (ad_.cells x)) (fun a => ∃ l, a = .agg [.own l x.Nodes.length]) := hz_ x hx
 simp (disch := (first | omega | (simp only [ls_, la_, lc_, ln_]; first | done | omega))) only [aU_, go_sem, reduceEqDiff, Nat.reduceAdd, ↓reduceIte, zG_, c20, ad_.cells, av_.cells]
 refine aa_.call (cM_ x hx _) ?_
 by_cases q1 : aW_ x = true
 case neg =>
  have q1' : aW_ x = false := by simpa using q1
  have hR : aC_ x t = (ck_, ⟨[]⟩, [], 1) := by simp [aC_, q1']
  simp (disch := (first | omega | (simp only [ls_, la_, lc_, ln_]; first | done | omega))) only [eG_, gf_, go_sem, reduceEqDiff, Nat.reduceAdd, ↓reduceIte, q1', bE_, Option.map_some, d0_]
  rw [hR]
  exact ⟨⟨aD_.app _ _, gi_ (mI_ (l := h0.length + 4) (by rw [bs_]; rfl) (by omega) (by simp)) (by simp) _⟩, _, _, _, _, _, rfl, rfl, _, rfl⟩
 simp (disch := (first | omega | (simp only [ls_, la_, lc_, ln_]; first | done | omega))) only [cc_, go_sem, reduceEqDiff, Nat.reduceAdd, ↓reduceIte, q1]
 refine aa_.call (nf_ t ht _) ?_
 by_cases q2 : c9_ t = true
 case neg =>
  have q2' : c9_ t = false := by simpa using q2
  have hR : aC_ x t = (ck_, ⟨[]⟩, [], 1) := by simp [aC_, q2']
  simp (disch := (first | omega | (simp only [ls_, la_, lc_, ln_]; first | done | omega))) only [eG_, gf_, go_sem, reduceEqDiff, Nat.reduceAdd, ↓reduceIte, q2', bE_, Option.map_some, d0_]
  rw [hR]
  exact ⟨⟨aD_.app _ _, gi_ (mI_ (l := h0.length + 4) (by rw [bs_]; rfl) (by omega) (by simp)) (by simp) _⟩, _, _, _, _, _, rfl, rfl, _, rfl⟩
 have hdp := lU_ q2
 by_cases q4 : t.Depth = 0
 ·have q4' : (t.Depth = 0) = True := eq_true q4
  have hR : aC_ x t = (ck_, ⟨[]⟩, [], 17) := by simp [aC_, q1, q2, q4]
  simp (disch := (first | omega | (simp only [ls_, la_, lc_, ln_]; first | done | omega))) only [cc_, eG_, gf_, go_sem, reduceEqDiff, Nat.reduceAdd, ↓reduceIte, q2, q4', bE_, Option.map_some, d0_]
  rw [hR]
  exact ⟨⟨aD_.app _ _, gi_ (mI_ (l := h0.length + 4) (by rw [bs_]; rfl) (by omega) (by simp)) (by simp) _⟩, _, _, _, _, _, rfl, rfl, _, rfl⟩
 have q4' : (t.Depth = 0) = False := eq_false q4
 by_cases q5 : 1 < t.Depth
 ·have q5' : (1 < t.Depth) = True := eq_true q5
  have hR : aC_ x t = (⟨t.Depth - 1, t.Restarts, t.Events⟩, x, [], 0) := by simp [aC_, q1, q2, q4, q5]
  rw [hR]
  simp (disch := (first | omega | (simp only [ls_, la_, lc_, ln_]; first | done | omega))) only [aU_, cc_, go_sem, reduceEqDiff, ↓reduceIte, q2, q4', q5', aq_]
  refine kT_ t.Events (av_.sz_Events ht) (fun l H3 done m3 hl3 G3 hd3 => ?_)
  have l3 := m3.len
  simp only [la_, lc_, ln_] at l3 hl3
  have g3 := G3.lt
  have p0 := m3.at (i := h0.length) (by rw [b4_]; rfl)
  have p1 := m3.at (i := h0.length + 1) (by rw [bs_]; rfl)
  have p2 := m3.at (i := h0.length + 2) (by rw [bs_]; rfl)
  have p3 := m3.at (i := h0.length + 3) (by rw [bs_]; rfl)
  have m3' : aD_ h0 H3 := (aD_.app h0 _).trans m3
  simp (disch := (first | omega | (simp only [ls_, la_, lc_, ln_]; first | done | omega))) only [go_sem, reduceEqDiff, Nat.reduceAdd, reduceLeDiff, ↓reduceIte, p0, p1, aq_, bE_, Option.map_some]
  refine bk_ hct (fun av H4 m4 F4 q7 => ?_)
  obtain ⟨l4, rfl⟩ := q7
  have y4 := m4.len
  have keep : ∀ z, z < H3.length → H4[z]? = H3[z]? := fun z q => m4.kept z q
  have u0 := (keep _ (by omega)).trans p0
  have u1 := (keep _ (by omega)).trans p1
  have u2 := (keep _ (by omega)).trans p2
  have u3 := (keep _ (by omega)).trans p3
  have hF4 := F4.tree
  simp (disch := (first | omega | (simp only [ls_, la_, lc_, ln_]; first | done | omega))) only [al_, aK_, aE_, ls_, go_sem, reduceEqDiff, Nat.reduceAdd, ↓reduceIte, u0, u1, u2, u3, aq_, d0_]
  have hM : aD_ h0 H4 := m3'.trans m4
  refine ⟨⟨((hM.set (by omega)).set (by omega)).add _, jy_ (m1 := H3.length) (m2 := H4.length) ?_ ?_ (mI_ (l := H4.length) (aU_ (by simp)) (Nat.le_refl _) (by simp)) (by omega) (by omega) (by simp) _ _ _⟩, _, _, _, _, _, rfl, rfl, _, rfl⟩
  ·refine ((G3.done hd3).keep fun z z1 z2 => ?_).widen (by omega) (Nat.le_refl _)
   rw [aE_ (by simp; omega), al_ (by omega), al_ (by omega)]; exact keep z z2
  ·exact (hF4.keep fun z z1 z2 => by rw [aE_ (by simpa using z2), al_ (by omega), al_ (by omega)]).widen (by omega) (Nat.le_refl _)
 have q5' : (1 < t.Depth) = False := eq_false q5
 have hn := je_ q2
 have hz : ad_.sz (bt_ x t.Events 0).1 ≤ 1048576 := by rw [← m1_ q1 hn]; exact ta_ x t.Events
 simp (disch := (first | omega | (simp only [ls_, la_, lc_, ln_]; first | done | omega))) only [aU_, cc_, go_sem, reduceEqDiff, ↓reduceIte, q2, q4', q5']
 refine ms_ x t.Events rfl (fun X _ => ca_.same rfl) q1 (iN_ hn).2 (av_.sz_Events ht) (fun b H1 m1 cb hb => ?_)
 have l1 := m1.len
 simp only [la_, lc_, ln_] at l1
 have cb' := cb
 simp only [AV.cell, Value.oneCell'] at cb'
 have m0 : aD_ h0 H1 := (aD_.app h0 _).trans m1
 have p1 := m1.at (i := h0.length + 1) (by rw [bs_]; rfl)
 have p2 := m1.at (i := h0.length + 2) (by rw [bs_]; rfl)
 have p3 := m1.at (i := h0.length + 3) (by rw [bs_]; rfl)
 by_cases hc : (bt_ x t.Events 0).2.2 = 0
 case neg =>
  have hc' : ((bt_ x t.Events 0).2.2 = 0) = False := eq_false hc
  have hR : aC_ x t = (ck_, ⟨[]⟩, [], (bt_ x t.Events 0).2.2) := by simp [aC_, q1, q2, q4, q5, hc]
  simp (disch := (first | omega | (simp only [ls_, la_, lc_, ln_]; first | done | omega))) only [al_, aK_, aE_, aU_, go_sem, reduceEqDiff, Nat.reduceAdd, ↓reduceIte, p2, p3, cb', hc', bE_, Option.map_some, d0_]
  rw [hR]
  exact ⟨⟨by first | exact (((m0.add _).add _).set (by omega)).set (by omega) | exact ((m0.add _).set (by omega)).set (by omega) | exact (((m0.add _).set (by omega)).set (by omega)).add _ | exact ((m0.trans (aD_.app _ _)).set (by omega)).set (by omega), gi_ (mI_ (l := H1.length + 1) (by first | (rw [al_ (by omega), al_ (by omega), bs_]; rfl) | (rw [al_ (by omega), al_ (by omega)]; exact aU_ (by simp)) | exact aU_ (by simp)) (by omega) (by simp)) (by simp; omega) _⟩, _, _, _, _, _, rfl, rfl, _, rfl⟩
 have hc' : ((bt_ x t.Events 0).2.2 = 0) = True := eq_true hc
 have hR : aC_ x t = (ck_, (bt_ x t.Events 0).1, cD_ t.Events, 0) := by simp [aC_, q1, q2, q4, q5, hc]
 rw [hR]
 simp (disch := (first | omega | (simp only [ls_, la_, lc_, ln_]; first | done | omega))) only [aE_, aU_, go_sem, reduceEqDiff, ↓reduceIte, p1, cb', hc, bE_, Option.map_some]
 refine eH_ (hz_ _ hz) (bc_.cons (vb_ hb fun z q1 q2 => aE_ q2) bc_.nil) (fun av H2 m2 F2 q3 => ?_)
 obtain ⟨l, rfl⟩ := q3
 have l2 := m2.len
 simp only [la_, lc_, ln_] at l2
 have r1 := m2.at ((aD_.row H1 _).at p1)
 have r2 := m2.at ((aD_.row H1 _).at p2)
 have r3 := m2.at ((aD_.row H1 _).at p3)
 simp (disch := (first | omega | (simp only [ls_, la_, lc_, ln_]; first | done | omega))) only [go_sem, reduceEqDiff, ↓reduceIte, r1, bE_, Option.map_some]
 refine bk_ (jJ_ t.Events (av_.sz_Events ht)) (fun av H3 m3 F3 q6 => ?_)
 obtain ⟨k3, rfl⟩ := q6
 have l3 := m3.len
 have s2 := m3.at r2
 have s3 := m3.at r3
 simp (disch := (first | omega | (simp only [ls_, la_, lc_, ln_]; first | done | omega))) only [al_, aK_, go_sem, reduceEqDiff, Nat.reduceAdd, ↓reduceIte, s2, s3, bE_, Option.map_some, d0_]
 have hM : aD_ h0 H3 := ((m0.add _).trans m2).trans m3
 have hF2 := F2.tree
 simp only [la_, lc_, ln_] at hF2
 refine ⟨⟨(hM.set (by omega)).set (by omega), jy_ (es := []) (m1 := h0.length) (m2 := H2.length) (ay_.mknil _ _ _ _) ?_ ?_ (Nat.le_refl _) (by omega) (by simp; omega) 0 0 0⟩, _, _, _, _, _, rfl, rfl, _, rfl⟩
 ·exact (hF2.keep fun z z1 z2 => by rw [al_ (by omega), al_ (by omega)]; exact m3.kept z z2).widen (by omega) (Nat.le_refl _)
 ·exact (F3.tree.keep fun z z1 z2 => by rw [al_ (by omega), al_ (by omega)]).widen (Nat.le_refl _) (by simp)
theorem gN_ (x : ad_) (t : av_) (hx : ad_.sz x ≤ 1048576) (ht : av_.sz t ≤ 1048576) (h : List Row) : aa_ Tryz.prog 20 [.agg (ad_.cells x), .agg (av_.cells t)] h (hv_ (aC_ x t)) := (jd_ x t hx ht).pure rfl h
end Go.Proofs.YtfkddbkjmkceaaaGreatDoor
