/-
 Contracts of functions of this program, over abstract values. Conditions: as each theorem says.
-/
import Derived.Test.YtfplhbjggecnpaaGreatDoorFnUD
import Derived.Test.YtfplhbjggecnpaaGreatDoorAwC
import Derived.Test.YtfplhbjggecnpaaGreatDoorFnTS
namespace Go.Proofs.YtfplhbjggecnpaaGreatDoor
open List
open Go.AW
set_option linter.unusedVariables false
set_option linter.unusedSimpArgs false
set_option maxRecDepth 4000
theorem vN_ {α : Type} (a b : List α) (x : α) : (a ++ x :: b).Perm ([x] ++ (a ++ b)) := perm_middle
section
variable {lo E sz l m : Nat} {H H' : List Row} {ts : List Tr} {t' : Tr}
structure o0_ (lo : Nat) (H : List Row) (sz l lv : Nat) (ts : List Tr) (t' : Tr) : Prop where
 wide : t'.c.length = sz ∧ t'.c.all AV.cell = true
 tree : ∃ k, aK_ (Own H k) t'.c t'.d t'.f
 one : t'.f.Nodup
 off : ∀ x ∈ t'.f, x ∉ cq_ l ts ∧ x ≠ lv ∧ lo ≤ x ∧ x < H.length
theorem bY_.insert (s : bY_ lo H E sz l m ts) {lv : Nat} (e : o0_ lo H sz l lv ts t') {l' m' : Nat} {A B : List Tr} (hAB : (A ++ B).Sublist ts) (hrow : H'[l']? = some ⟨.ty E, sz, (A ++ t' :: B).map Tr.c⟩) (hle : m' ≤ (A ++ t' :: B).length)
 (hk : ∀ x, x < H.length → x ≠ l → H'[x]? = H[x]?) (hl : l' = l ∨ H.length ≤ l') (hlen : H.length ≤ H'.length) : bY_ lo H' E sz l' m' (A ++ t' :: B) := by
 obtain ⟨k, ht⟩ := e.tree
 have hkf : ∀ x ∈ t'.f, H'[x]? = H[x]? := fun x hx => by
  obtain ⟨h1, h2, h3, h4⟩ := e.off x hx
  exact hk x h4 (fun q => h1 (by rw [q]; exact mem_cons_self))
 refine s.renew hrow hle (vN_ A B t') hAB (fun t q => ?_) ⟨k, fun t q => ?_⟩ ?_ (fun x hx => ?_) (fun x hx => ?_) hl hlen
 ·simp only [mem_singleton] at q; subst q; exact e.wide
 ·simp only [mem_singleton] at q; subst q
  exact aK_.mono (fun a r g hg ho => ho.keep fun x hx => hkf x (hg x hx)) ht
 ·simp only [map_cons, map_nil, flatten_cons, flatten_nil, append_nil]; exact e.one
 ·simp only [map_cons, map_nil, flatten_cons, flatten_nil, append_nil] at hx
  obtain ⟨h1, h2, h3, h4⟩ := e.off x hx
  refine ⟨h1, fun q => ?_, h3, by omega⟩
  rcases hl with q2 | q2
  ·exact h1 (by rw [q, q2]; exact mem_cons_self)
  ·omega
 ·have h5 : x ≠ l := fun q => (nodup_cons.1 s.one).1 (q ▸ hx)
  exact hk x (s.lows x (mem_cons_of_mem _ hx)).2 h5
theorem qE_ {l' : Nat} {A B : List Tr} (hAB : (A ++ B).Sublist ts) (hl : l' = l ∨ H.length ≤ l') : ∀ x ∈ cq_ l' (A ++ t' :: B), x ∈ cq_ l ts ∨ x ∈ t'.f ∨ H.length ≤ x := by
 intro x hx
 have hsub : ∀ t ∈ A ++ B, t ∈ ts := fun t q => hAB.subset q
 simp only [cq_, map_append, map_cons, flatten_append, flatten_cons, mem_cons, mem_append] at hx
 have old : ∀ (C : List Tr), (∀ t ∈ C, t ∈ ts) → x ∈ (C.map Tr.f).flatten → x ∈ cq_ l ts := fun C hC q => by
  obtain ⟨f, q1, q2⟩ := mem_flatten.1 q
  obtain ⟨t, q3, rfl⟩ := mem_map.1 q1
  exact jC_ (hC t q3) q2
 rcases hx with q | q | q | q
 ·rcases hl with e | e
  ·left; rw [q, e]; exact mem_cons_self
  ·right; right; omega
 ·exact .inl (old A (fun t z => hsub t (mem_append_left _ z)) q)
 ·exact .inr (.inl q)
 ·exact .inl (old B (fun t z => hsub t (mem_append_right _ z)) q)
end
theorem o0_.of {lo a b sz l lv : Nat} {H : List Row} {ts : List Tr} {cs ds : List AV} (hF : ap_ a b H cs ds) (hd : ds.length = sz ∧ ∀ r ∈ ds, r.cell = true) (ha : ∀ y ∈ cq_ l ts, y < a) (hlo : lo ≤ a) (hv : b ≤ lv) (hb : b ≤ H.length) : ∃ f, o0_ lo H sz l lv ts ⟨cs, ds, f⟩ ∧ ∀ y ∈ f, a ≤ y := by
 obtain ⟨n, f, h1, h2, h3⟩ := hF
 obtain ⟨q1, q2⟩ := h1.cells_of hd.2
 exact ⟨f, ⟨⟨q1.trans hd.1, q2⟩, ⟨n, h1⟩, h2, fun x hx => by
  have := h3 x hx
  exact ⟨fun q => by have := ha x q; omega, by omega, by omega, by omega⟩⟩, fun y hy => (h3 y hy).1⟩
theorem rx_ {α : Type} {es : List α} {i m : Nat} (hi : i < m) : (List.take (m + 1 - (i + 1)) (List.drop i (List.take (m + 1) es))) = (es.take m).drop i := by
 rw [drop_take, drop_take, take_take]
 congr 1; omega
theorem vU_ {α : Type} {es : List α} {v : α} {i m N : Nat} (hN : es.length = N) (hi : i < m) (hm : m < N) :
 List.take i (List.take (i + 1) es ++ (List.take (m + 1 - (i + 1)) (List.drop i (List.take (m + 1) es)) ++ List.drop (i + 1 + min (min (m + 1) N - i) (m + 1 - (i + 1))) es)) ++
  (List.take (m + 1 - i) [v] ++ List.drop (i + min 1 (m + 1 - i)) (List.take (i + 1) es ++ (List.take (m + 1 - (i + 1)) (List.drop i (List.take (m + 1) es)) ++ List.drop (i + 1 + min (min (m + 1) N - i) (m + 1 - (i + 1))) es))) =
 es.take i ++ v :: ((es.take m).drop i ++ es.drop (m + 1)) := by
 have e1 : i + 1 + min (min (m + 1) N - i) (m + 1 - (i + 1)) = m + 1 := by omega
 have e2 : i + min 1 (m + 1 - i) = i + 1 := by omega
 have e3 : List.take (m + 1 - i) [v] = [v] := take_of_length_le (by simp; omega)
 have e4 : (List.take (i + 1) es).length = i + 1 := by rw [length_take]; omega
 rw [e1, e2, e3, rx_ hi, take_append_of_le_length (by omega), take_take, Nat.min_eq_left (by omega), drop_left' e4]
 rfl
theorem ut_ {α : Type} {es Z : List α} {v : α} {i cap : Nat} (hN : es.length = cap) (hi : i < cap) (hZ : Z.length = cap + 1 - i) :
 List.take (i + 1) (List.take i (List.take i es ++ Z) ++ (List.take (cap + 1 - i) [v] ++ List.drop (i + min 1 (cap + 1 - i)) (List.take i es ++ Z))) ++
  (List.take (cap + 1 - (i + 1)) (List.drop i (List.take cap es)) ++ List.drop (i + 1 + min (min cap cap - i) (cap + 1 - (i + 1))) (List.take i (List.take i es ++ Z) ++ (List.take (cap + 1 - i) [v] ++ List.drop (i + min 1 (cap + 1 - i)) (List.take i es ++ Z)))) =
 es.take i ++ v :: es.drop i := by
 have e0 : (List.take i es).length = i := by rw [length_take]; omega
 have e1 : i + 1 + min (min cap cap - i) (cap + 1 - (i + 1)) = cap + 1 := by omega
 have e2 : i + min 1 (cap + 1 - i) = i + 1 := by omega
 have e3 : List.take (cap + 1 - i) [v] = [v] := take_of_length_le (by simp; omega)
 have e4 : List.take cap es = es := take_of_length_le (by omega)
 have e5 : List.take (cap + 1 - (i + 1)) (List.drop i es) = es.drop i := take_of_length_le (by rw [length_drop]; omega)
 have e6 : List.take i (List.take i es ++ Z) = es.take i := take_left' e0
 have e7 : ∀ W : List α, List.take (i + 1) (List.take i es ++ ([v] ++ W)) = es.take i ++ [v] := fun W => by
  rw [← append_assoc]
  exact take_left' (by rw [la_, e0]; rfl)
 have e8 : List.drop (cap + 1) (List.take i es ++ ([v] ++ List.drop (i + 1) (List.take i es ++ Z))) = [] := drop_eq_nil_of_le (by simp only [la_, length_drop, length_take, lc_, ln_, hZ]; omega)
 rw [e1, e2, e3, e4, e5, e6, e7, e8, append_nil]
 simp
def pB_ : LC :=
 .seq (.ops [.s 6 (.mov (.const (.slice none 0 0)))]) (.seq (.ops [.m 10 0, .m 11 1, .s 12 (.sliceSl 3 (.tmp 10) (some (.tmp 11)) none)]) (.seq (.ops [.m 13 2, .ll 14 13, .m 7 14]) (.seq (.seq (.ops [.m 15 7, .bk 16 .eql
 false 15 0]) (.cond (.tmp 16) (.seq (.ops [.m 17 0, .m 6 17]) .ret) .skip)) (.seq (.ops [.m 18 0, .ll 19 18, .m 8 19]) (.seq (.seq (.ops [.m 20 1, .m 21 8, .bb 22 .eql false 20 21]) (.cond (.tmp 22) (.seq (.ops [.m 23 0,
 .m 24 2, .ap 25 112 3 56 23 24, .m 6 25]) .ret) .skip)) (.seq (.seq (.ops [.m 26 8, .m 27 7, .bb 28 .add false 26 27, .m 29 0, .s 30 (.capSl (.tmp 29)), .bb 31 .gtr false 28 30]) (.cond (.tmp 31) (.seq (.ops [.m 32 0, .m
 33 1, .s 34 (.sliceSl 3 (.tmp 32) none (some (.tmp 33))), .m 35 8, .m 36 7, .bb 37 .add false 35 36, .m 38 1, .bb 39 .sub false 37 38, .s 40 (.appendZ 112 3 56 (.agg #[.string ⟨#[]⟩, .slice none 0 0, .string ⟨#[]⟩])
 (.tmp 34) (.tmp 39)), .m 9 40]) (.seq (.ops [.m 41 9, .m 42 1, .s 43 (.sliceSl 3 (.tmp 41) (some (.tmp 42)) none), .m 44 2, .s 45 (.copySl 3 (.tmp 43) (.tmp 44))]) (.seq (.gops [.m 46 9, .m 47 1, .m 48 7, .bb 49 .add
 false 47 48, .s 50 (.sliceSl 3 (.tmp 46) (some (.tmp 49)) none), .m 51 0, .m 52 1, .s 53 (.sliceSl 3 (.tmp 51) (some (.tmp 52)) none)] [(.s 54 (.copySl 3 (.tmp 50) (.tmp 53)), [])]) (.seq (.ops [.m 55 9, .m 6 55])
 .ret)))) .skip)) (.seq (.ops [.m 56 0, .m 57 8, .m 58 7, .bb 59 .add false 57 58, .s 60 (.sliceSl 3 (.tmp 56) none (some (.tmp 59))), .m 0 60]) (.seq (.seq (.ops [.m 61 2, .m 62 0, .m 63 1, .m 64 7, .bb 65 .add false 63
 64, .s 66 (.sliceSl 3 (.tmp 62) (some (.tmp 65)) none), .s 67 (.ovl (.tmp 61) (.tmp 66)), .nt 68 67]) (.cond (.tmp 68) (.seq (.gops [.m 69 0, .m 70 1, .m 71 7, .bb 72 .add false 70 71, .s 73 (.sliceSl 3 (.tmp 69) (some
 (.tmp 72)) none), .m 74 0, .m 75 1, .s 76 (.sliceSl 3 (.tmp 74) (some (.tmp 75)) none)] [(.s 77 (.copySl 3 (.tmp 73) (.tmp 76)), [])]) (.seq (.ops [.m 78 0, .m 79 1, .s 80 (.sliceSl 3 (.tmp 78) (some (.tmp 79)) none), .m
 81 2, .s 82 (.copySl 3 (.tmp 80) (.tmp 81))]) (.seq (.ops [.m 83 0, .m 6 83]) .ret))) .skip)) (.seq (.ops [.m 84 0, .m 85 8, .s 86 (.sliceSl 3 (.tmp 84) (some (.tmp 85)) none), .m 87 2, .s 88 (.copySl 3 (.tmp 86) (.tmp
 87))]) (.seq (.ops [.m 89 0, .m 90 1, .s 91 (.sliceSl 3 (.tmp 89) (some (.tmp 90)) none), .m 92 7, .c2 93 213 91 92]) (.seq (.ops [.m 94 0, .m 6 94]) .ret)))))))))))
def mB_ : LF := ⟨3, 95, pB_, [.tmp 6]⟩
theorem tM_ : at_ Tryz.prog Tryz.f184 mB_ := ai_
theorem tF_ (a b : Nat) : Nat.min a b = min a b := rfl
theorem te_ {α : Type} {es : List α} {j : α} {n : Nat} (h : es.length = n) : (es ++ [j]).take n = es := by rw [← h, take_left']; rfl
theorem er_ {l N m lv i : Nat} {H : List Row} {es : List (List AV)} {v : List AV} (hr : H[l]? = some ⟨.ty 112, 3, es⟩) (hN : es.length = N) (hm : m < N) (hi : i ≤ m) (hm2 : m ≤ 1048575) (hc : ∀ e ∈ es.take m, e.all AV.cell = true) (hv : H[lv]? = some ⟨.ty 112, 3, [v]⟩) (hvc : v.all AV.cell = true) (hlv : lv ≠ l)
 {K : AV → List Row → Prop} (hk : K (.sub l N 0 (m + 1)) (H.set l ⟨.ty 112, 3, es.take i ++ v :: ((es.take m).drop i ++ es.drop (m + 1))⟩)) : callSem Tryz.prog 184 [.sub l N 0 m, .val (.int .i64 i), .own lv 1] H K := by
 refine bd_ mixed Tryz.func184 tM_ (cb_ rfl ?_)
 have hll := (List.getElem?_eq_some_iff.1 hr).1
 have hvl := (List.getElem?_eq_some_iff.1 hv).1
 by_cases him : i = m
 ·subst him
  have e1 : (es.take i).drop i = [] := drop_eq_nil_of_le (by rw [length_take]; omega)
  rw [e1, nil_append] at hk
  have e2 : i + 1 ≤ N := hm
  simp (disch := (first | omega | (simp only [ls_, la_, lc_, ln_]; first | done | omega))) only [go_sem, Nat.reduceEqDiff, Nat.reduceLeDiff, reduceCtorEq, ↓reduceIte, mB_, pB_, hr, hv, hN, hvc, e2, Nat.sub_zero, Nat.zero_add]
  exact ⟨by omega, by omega, by omega, hk⟩
 ·have him' : ((i : Int) = (m : Int)) = False := eq_false (by omega)
  simp (disch := (first | omega | (simp only [ls_, la_, lc_, ln_]; first | done | omega))) only [go_sem, Nat.reduceEqDiff, reduceCtorEq, ↓reduceIte, mB_, pB_, hr, hv, hN, him', Nat.sub_zero, Nat.zero_add]
  intro cap hcap
  have hcf : ((cap : Int) < (m : Int) + ((1 : Nat) : Int)) = False := eq_false (by omega)
  have hm1 : m + 1 ≤ N := hm
  have htm : ((m : Int) + ((1 : Nat) : Int)).toNat = m + 1 := by omega
  have hti : ((i : Int) + ((1 : Nat) : Int)).toNat = i + 1 := by omega
  simp (disch := (first | omega | (simp only [ls_, la_, lc_, ln_]; first | done | omega))) only [ar_, aD_, go_sem, Nat.reduceEqDiff, Nat.reduceLeDiff, reduceCtorEq, ↓reduceIte, hcf, htm, hti, hr, hv, hN, hm1, Nat.sub_zero, Nat.zero_add, la_, length_take, length_drop, lc_, ln_, tF_, if_pos]
  refine ⟨hlv, hi, fun e he => ?_, by omega, by omega, fun e he => ?_, ?_⟩
  ·rw [rx_ (by omega)] at he
   exact hc e (mem_of_mem_drop he)
  ·have := mem_of_mem_take he
   simp only [mem_singleton] at this
   subst this; exact hvc
  ·rw [set_set]
   exact (congrArg (fun z => K (.sub l N 0 (m + 1)) (H.set l ⟨.ty 112, 3, z⟩)) (vU_ hN (by omega) hm)).mpr hk
theorem gW_ {l N lv i : Nat} {H : List Row} {es : List (List AV)} {v : List AV} (hr : H[l]? = some ⟨.full 112, 3, es⟩) (hN : es.length = N) (hi : i ≤ N) (hm2 : N ≤ 1048575) (hc : ∀ e ∈ es, e.all AV.cell = true) (hv : H[lv]? = some ⟨.ty 112, 3, [v]⟩) (hvc : v.all AV.cell = true) (hlv : lv ≠ l)
 {K : AV → List Row → Prop} (hk : K (.own H.length (N + 1)) (H ++ [⟨.ty 112, 3, es.take i ++ v :: es.drop i⟩])) : callSem Tryz.prog 184 [.sub l N 0 N, .val (.int .i64 i), .own lv 1] H K := by
 refine bd_ mixed Tryz.func184 tM_ (cb_ rfl ?_)
 have hll := (List.getElem?_eq_some_iff.1 hr).1
 have hvl := (List.getElem?_eq_some_iff.1 hv).1
 by_cases him : i = N
 ·subst him
  simp (disch := (first | omega | (simp only [ls_, la_, lc_, ln_]; first | done | omega))) only [go_sem, Nat.reduceEqDiff, Nat.reduceLeDiff, reduceCtorEq, ↓reduceIte, mB_, pB_, hr, hv, hN, hvc, Nat.sub_zero, Nat.zero_add]
  rw [← hN, take_length, drop_length] at *
  exact ⟨by omega, by omega, by omega, hk⟩
 ·have him' : ((i : Int) = (N : Int)) = False := eq_false (by omega)
  simp (disch := (first | omega | (simp only [ls_, la_, lc_, ln_]; first | done | omega))) only [go_sem, Nat.reduceEqDiff, reduceCtorEq, ↓reduceIte, mB_, pB_, hr, hv, hN, him', Nat.sub_zero, Nat.zero_add]
  intro cap hcap1 hcap
  subst hcap
  have hcf : ((cap : Int) < (cap : Int) + ((1 : Nat) : Int)) = True := eq_true (by omega)
  have htm : ((cap : Int) + ((1 : Nat) : Int) - (i : Int)).toNat = cap + 1 - i := by omega
  have hti : ((i : Int) + ((1 : Nat) : Int)).toNat = i + 1 := by omega
  simp (disch := (first | omega | (simp only [ls_, la_, lc_, ln_]; first | done | omega))) only [aw_, aQ_, go_sem, Nat.reduceEqDiff, reduceCtorEq, ↓reduceIte, hcf, htm, hti, hr, hv, hN, Nat.sub_zero, Nat.zero_add, la_, length_take, length_drop, lc_, ln_, length_replicate, tF_, if_pos]
  have hn : i + (cap + 1 - i) = cap + 1 := by omega
  rw [hn]
  refine ⟨by omega, by omega, by omega, by omega, by omega, by omega, by omega, fun e he => ?_, by omega, by omega, fun e he => ?_, ?_⟩
  ·have := mem_of_mem_take he
   simp only [mem_singleton] at this
   subst this; exact hvc
  ·exact hc e (mem_of_mem_take (mem_of_mem_drop (mem_of_mem_take he)))
  ·refine (congrArg (fun z => K (.own H.length (cap + 1)) (H ++ [⟨.ty 112, 3, z⟩])) (ut_ hN (by omega) ?_)).mpr hk
   exact length_replicate
theorem ht_ {lo l m lv i a b : Nat} {H : List Row} {ts : List Tr} {cs ds : List AV} (s : bY_ lo H 112 3 l m ts) (hi : i ≤ m) (hm : m ≤ 1048575) (hv : H[lv]? = some ⟨.ty 112, 3, [cs]⟩) (hF : ap_ a b H cs ds) (hd : ds.length = 3 ∧ ∀ r ∈ ds, r.cell = true) (ha : ∀ y ∈ cq_ l ts, y < a) (hla : lo ≤ a) (hab : a ≤ b) (hbv : b ≤ lv) {K : AV → List Row → Prop}
 (hk : ∀ (av : AV) (H' : List Row) (l' : Nat) (ts' : List Tr), H.length ≤ H'.length → (∀ x, x < H.length → x ≠ l → H'[x]? = H[x]?) → bY_ lo H' 112 3 l' (m + 1) ts' → Sl av l' (m + 1) ts' → (ts'.take (m + 1)).map Tr.d = ((ts.take m).map Tr.d).take i ++ ds :: ((ts.take m).map Tr.d).drop i → (∀ y ∈ cq_ l' ts', y ∈ cq_ l ts ∨ a ≤ y) → K av H') :
 callSem Tryz.prog 184 [.sub l ts.length 0 m, .val (.int .i64 i), .own lv 1] H K := by
 have hr := s.row
 have hll := s.lt
 have hle := s.le
 have hvl := (List.getElem?_eq_some_iff.1 hv).1
 have hlv : lv ≠ l := fun q => by
  have := ha l mem_cons_self
  omega
 obtain ⟨f, e, hfa⟩ := o0_.of (lv := lv) hF hd ha hla hbv (by omega)
 have hft : ∀ {l' : Nat} {A B : List Tr}, (A ++ B).Sublist ts → (l' = l ∨ H.length ≤ l') → ∀ y ∈ cq_ l' (A ++ ⟨cs, ds, f⟩ :: B), y ∈ cq_ l ts ∨ a ≤ y := fun {l' A B} h1 h2 y hy => by
  rcases qE_ h1 h2 y hy with q | q | q
  ·exact .inl q
  ·exact .inr (hfa y q)
  ·exact .inr (by omega)
 obtain ⟨hw1, hw2⟩ := e.wide
 have hwc : ∀ x ∈ ts.map Tr.c, x.all AV.cell = true := fun x hx => by
  obtain ⟨t, ht, rfl⟩ := mem_map.1 hx
  exact (s.wide t ht).2
 have hdat : ∀ (C : List Tr), C.take (m + 1) = ts.take i ++ ⟨cs, ds, f⟩ :: (ts.take m).drop i → (C.take (m + 1)).map Tr.d = ((ts.take m).map Tr.d).take i ++ ds :: ((ts.take m).map Tr.d).drop i := fun C q => by
  rw [q, map_append, map_cons, map_drop, ← map_take, take_take, Nat.min_eq_left hi]
 by_cases hmN : m < ts.length
 ·refine er_ hr (by simp) hmN hi hm (fun x hx => hwc x (mem_of_mem_take hx)) hv hw2 hlv ?_
  have hrow : (ts.map Tr.c).take i ++ cs :: (((ts.map Tr.c).take m).drop i ++ (ts.map Tr.c).drop (m + 1)) = (ts.take i ++ ⟨cs, ds, f⟩ :: ((ts.take m).drop i ++ ts.drop (m + 1))).map Tr.c := by
   simp only [map_append, map_cons, map_take, map_drop]
  have hsub : (ts.take i ++ ((ts.take m).drop i ++ ts.drop (m + 1))).Sublist ts := by
   rw [← append_assoc]
   have e1 : ts.take i ++ (ts.take m).drop i = ts.take m := by
    have := take_append_drop i (ts.take m)
    rwa [take_take, Nat.min_eq_left hi] at this
   rw [e1]
   have e2 : (ts.take m ++ ts.drop (m + 1)).Sublist (ts.take m ++ ts.drop m) := List.Sublist.append (List.Sublist.refl _) (by rw [← drop_drop]; exact drop_sublist _ _)
   rwa [take_append_drop] at e2
  have hlen : (ts.take i ++ (⟨cs, ds, f⟩ : Tr) :: ((ts.take m).drop i ++ ts.drop (m + 1))).length = ts.length := by
   simp only [la_, lc_, length_take, length_drop]; omega
  rw [hrow]
  have hs := bY_.insert s (H' := H.set l ⟨.ty 112, 3, (ts.take i ++ ⟨cs, ds, f⟩ :: ((ts.take m).drop i ++ ts.drop (m + 1))).map Tr.c⟩) (m' := m + 1) e hsub (aD_ hll) (by omega) (fun x q1 q2 => ar_ (Ne.symm q2)) (.inl rfl) (by simp)
  refine hk _ _ l (ts.take i ++ ⟨cs, ds, f⟩ :: ((ts.take m).drop i ++ ts.drop (m + 1))) (by simp) (fun x q1 q2 => ar_ (Ne.symm q2)) hs (.inl (by rw [hlen])) (hdat _ ?_) (hft hsub (.inl rfl))
  have e3 : m + 1 = (ts.take i ++ (⟨cs, ds, f⟩ : Tr) :: (ts.take m).drop i).length := by
   simp only [la_, lc_, length_take, length_drop]; omega
  have e4 : ts.take i ++ (⟨cs, ds, f⟩ : Tr) :: ((ts.take m).drop i ++ ts.drop (m + 1)) = (ts.take i ++ (⟨cs, ds, f⟩ : Tr) :: (ts.take m).drop i) ++ ts.drop (m + 1) := by simp
  rw [e4, take_left' e3.symm]
 ·have hmN' : m = ts.length := by omega
  subst hmN'
  have hsub : (ts.take i ++ ts.drop i).Sublist ts := by rw [take_append_drop]; exact List.Sublist.refl _
  have hrow : (ts.map Tr.c).take i ++ cs :: (ts.map Tr.c).drop i = (ts.take i ++ ⟨cs, ds, f⟩ :: ts.drop i).map Tr.c := by
   simp only [map_append, map_cons, map_take, map_drop]
  have hlen : (ts.take i ++ (⟨cs, ds, f⟩ : Tr) :: ts.drop i).length = ts.length + 1 := by
   simp only [la_, lc_, length_take, length_drop]; omega
  have htk : (ts.take i ++ (⟨cs, ds, f⟩ : Tr) :: ts.drop i).take (ts.length + 1) = ts.take i ++ ⟨cs, ds, f⟩ :: (ts.take ts.length).drop i := by rw [take_of_length_le (by omega), take_length]
  refine rR_ hr (by simp) (by decide) ?_ ?_
  ·have jt : (ts.map Tr.c ++ [List.replicate 3 AV.undef]).take ts.length = ts.map Tr.c := te_ (by simp)
   refine er_ (N := ts.length + 1) (m := ts.length) (es := ts.map Tr.c ++ [List.replicate 3 .undef]) (aD_ hll) (by simp) (by omega) hi hm (fun x hx => hwc x ?_) (by rw [ar_ (Ne.symm hlv)]; exact hv) hw2 hlv ?_
   ·rwa [jt] at hx
   ·rw [jt]
    have e5 : (ts.map Tr.c ++ [List.replicate 3 AV.undef]).take i = (ts.map Tr.c).take i := by rw [take_append_of_le_length (by simp; omega)]
    have e6 : (ts.map Tr.c ++ [List.replicate 3 AV.undef]).drop (ts.length + 1) = [] := drop_eq_nil_of_le (by simp)
    rw [e5, e6, append_nil, set_set, hrow]
    have hs := bY_.insert s (H' := H.set l ⟨.ty 112, 3, (ts.take i ++ ⟨cs, ds, f⟩ :: ts.drop i).map Tr.c⟩) (m' := ts.length + 1) e hsub (aD_ hll) (by omega) (fun x q1 q2 => ar_ (Ne.symm q2)) (.inl rfl) (by simp)
    exact hk _ _ l (ts.take i ++ ⟨cs, ds, f⟩ :: ts.drop i) (by simp) (fun x q1 q2 => ar_ (Ne.symm q2)) hs (.inl (by rw [hlen])) (hdat _ htk) (hft hsub (.inl rfl))
  ·refine gW_ (N := ts.length) (es := ts.map Tr.c) (aD_ hll) (by simp) hi hm hwc (by rw [ar_ (Ne.symm hlv)]; exact hv) hw2 hlv ?_
   refine ⟨by rw [aw_ (by simpa using hll)]; exact aD_ hll, ?_⟩
   rw [ls_, hrow]
   have hst : ∀ r1 r2 r3 : Row, H[l]? = some r3 → (H.set l r1 ++ [r2]).set l r3 = H ++ [r2] := fun r1 r2 r3 q => by
    rw [set_append_left _ _ (by simpa using hll), set_set, rg_ q]
   rw [hst _ _ _ hr]
   have hs := bY_.insert s (l' := H.length) (H' := H ++ [⟨.ty 112, 3, (ts.take i ++ ⟨cs, ds, f⟩ :: ts.drop i).map Tr.c⟩]) (m' := ts.length + 1) e hsub (aQ_ rfl) (by omega) (fun x q1 q2 => aw_ q1) (.inr (Nat.le_refl _)) (by simp)
   exact hk _ _ H.length (ts.take i ++ ⟨cs, ds, f⟩ :: ts.drop i) (by simp) (fun x q1 q2 => aw_ q1) hs (.inr ⟨by rw [hlen], hlen.symm⟩) (hdat _ htk) (hft hsub (.inr (Nat.le_refl _)))
theorem yq_ {lo hi l n E sz : Nat} {H : List Row} {ds es : List (List AV)} (h : aA_ lo hi H (.own l n) (.list 0 sz ds)) (hr : H[l]? = some ⟨.ty E, sz, es⟩) (hhi : hi ≤ H.length) (hd : ∀ d ∈ ds, d.length = sz ∧ ∀ r ∈ d, r.cell = true) :
 ∃ ts : List Tr, ts.map Tr.c = es ∧ ts.map Tr.d = ds ∧ bY_ lo H E sz l ts.length ts ∧ n = ts.length ∧ ∀ y ∈ cq_ l ts, y < hi := by
 obtain ⟨k, fs, h1, h2, h3⟩ := h
 cases k with
 | zero => exact h1.elim
 | succ k =>
  obtain ⟨row, es1, f, q1, q2, q3, q4, rfl⟩ := h1
  rw [hr] at q1
  obtain rfl := Option.some.inj q1
  simp only [AV.list.injEq, true_and] at q4
  subst q4
  obtain ⟨ts, r1, r2, rfl, r4⟩ := a7_.trs q3
  have hl : n = ts.length := by rw [← q2, ← r1]; simp
  refine ⟨ts, r1, r2, ⟨by rw [hr, r1], Nat.le_refl _, fun t ht => ?_, ⟨k, r4⟩, h2, fun y hy => ?_⟩, hl, fun y hy => (h3 y hy).2⟩
  ·obtain ⟨p1, p2⟩ := hd t.d (by rw [← r2]; exact mem_map.2 ⟨t, ht, rfl⟩)
   obtain ⟨p3, p4⟩ := (r4 t ht).cells_of p2
   exact ⟨p3.trans p1, p4⟩
  ·have := h3 y hy; omega
structure TB2 (L lo : Nat) (H : List Row) (l m : Nat) (ts : List Tr) : Prop where
 box : ∃ a, H[L]? = some ⟨.ty 30, 1, [[a]]⟩ ∧ Sl a l m ts
 at' : bY_ lo H 112 3 l m ts
 out : L ∉ cq_ l ts
 lt : lo ≤ L
structure ec_ (L lo : Nat) (H : List Row) (x : ad_) : Prop where
 out : ∃ (l m : Nat) (ts : List Tr), TB2 L lo H l m ts ∧ (ts.take m).map Tr.d = x.Nodes.map ac_.cells
theorem yF_ {ts : List Tr} {m : Nat} {ns : List ac_} (hle : m ≤ ts.length) (h : (ts.take m).map Tr.d = ns.map ac_.cells) : m = ns.length := by
 have := congrArg List.length h
 simp only [length_map, length_take] at this
 omega
section
variable {L lo : Nat} {H H' : List Row} {x : ad_}
theorem TB2.lL {l m : Nat} {ts : List Tr} (b : TB2 L lo H l m ts) : L < H.length := by
 obtain ⟨a, o, _⟩ := b.box
 exact (List.getElem?_eq_some_iff.1 o).1
theorem TB2.keep {l m : Nat} {ts : List Tr} (b : TB2 L lo H l m ts) (hk : ∀ y, lo ≤ y → y < H.length → H'[y]? = H[y]?) (hl : H.length ≤ H'.length) : TB2 L lo H' l m ts := by
 have hL := b.lL
 obtain ⟨a, o, hS⟩ := b.box
 exact ⟨⟨a, (hk L b.lt hL).trans o, hS⟩, b.at'.keep (fun y hy => hk y (b.at'.lows y hy).1 (b.at'.lows y hy).2) hl, b.out, b.lt⟩
theorem ec_.keep (B : ec_ L lo H x) (hk : ∀ y, lo ≤ y → y < H.length → H'[y]? = H[y]?) (hl : H.length ≤ H'.length) : ec_ L lo H' x := by
 obtain ⟨l, m, ts, b, d⟩ := B
 exact ⟨l, m, ts, b.keep hk hl, d⟩
theorem ec_.low (B : ec_ L lo H x) : lo ≤ L ∧ L < H.length := by
 obtain ⟨l, m, ts, b, d⟩ := B
 exact ⟨b.lt, b.lL⟩
theorem TB2.more {l m : Nat} {ts : List Tr} (b : TB2 L lo H l m ts) (h : aJ_ H H') : TB2 L lo H' l m ts := b.keep (fun y _ q => h.kept y q) h.len
theorem ec_.more (B : ec_ L lo H x) (h : aJ_ H H') : ec_ L lo H' x := B.keep (fun y _ q => h.kept y q) h.len
theorem ec_.arg (B : ec_ L lo H x) : ∃ a, H[L]? = some ⟨.ty 30, 1, [[a]]⟩ ∧ a.cell = true ∧ aA_ lo H.length H (.agg [a]) (.agg (ad_.cells x)) := by
 obtain ⟨l, m, ts, b, d⟩ := B
 obtain ⟨a, h1, h2⟩ := b.box
 have h3 := b.at'.freshS h2
 rw [d] at h3
 have := b.at'.lows l mem_cons_self
 exact ⟨a, h1, h2.cell, aA_.agg (ap_.cons h3 (ap_.nil _ _ _) ⟨by omega, Nat.le_refl _⟩)⟩
theorem ec_.of {l n hi : Nat} {es : List (List AV)} (hL : H[L]? = some ⟨.ty 30, 1, [[.own l n]]⟩) (hlt : lo ≤ L) (hhi : hi ≤ L) (hF : aA_ lo hi H (.agg [.own l n]) (.agg (ad_.cells x))) (hr : H[l]? = some ⟨.ty 112, 3, es⟩) : ec_ L lo H x := by
 have hL2 := (List.getElem?_eq_some_iff.1 hL).1
 have h1 : aA_ lo hi H (.own l n) (.list 0 3 (x.Nodes.map ac_.cells)) := hF.unagg.head
 obtain ⟨ts, e1, e2, s, e3, e4⟩ := yq_ h1 hr (by omega) (fun d hd => by
  obtain ⟨a, _, q⟩ := mem_map.1 hd; subst q
  refine ⟨rfl, fun r hr => ?_⟩
  simp only [ac_.cells, mem_cons, not_mem_nil, or_false] at hr
  rcases hr with rfl | rfl | rfl <;> rfl)
 subst e3
 exact ⟨l, ts.length, ts, ⟨⟨_, hL, .inr ⟨rfl, rfl⟩⟩, s, fun q => by have := e4 L q; omega, hlt⟩, by rw [take_length]; exact e2⟩
theorem yh_ {l m : Nat} {ts : List Tr} (s : bY_ lo H 112 3 l m ts) (hd : (ts.take m).map Tr.d = x.Nodes.map ac_.cells) {k : Nat} (hk : k < m) (hkt : k < ts.length) (hkx : k < x.Nodes.length) :
 ∃ b, ts[k].c = [.val (.string x.Nodes[k].Name), b, .val (.string x.Nodes[k].Value)] ∧ ts[k].d = ac_.cells x.Nodes[k] ∧ b.cell = true := by
 obtain ⟨kk, htree⟩ := s.tree
 have ht := htree ts[k] (getElem_mem hkt)
 have hdd : ts[k].d = ac_.cells x.Nodes[k] := by
  have := congrArg (fun z => z[k]?) hd
  simp only [getElem?_map, getElem?_take, if_pos hk, getElem?_eq_getElem hkt, getElem?_eq_getElem hkx, Option.map_some, Option.some.injEq] at this
  exact this
 have ec : ac_.cells x.Nodes[k] = [.val (.string x.Nodes[k].Name), .list 0 1 (x.Nodes[k].Subs.map am_), .val (.string x.Nodes[k].Value)] := rfl
 rw [hdd, ec] at ht
 obtain ⟨c1, e1, ht⟩ := ht.inv_val
 obtain ⟨c2, c3, g, g', e2, e3, ho, ht⟩ := ht.inv_cons
 obtain ⟨c4, e4, ht⟩ := ht.inv_val
 obtain ⟨e5, e6⟩ := ht.inv_nil
 subst e5 e6 e4 e2
 exact ⟨c2, e1, hdd, ho.cell_list⟩
end
def zF_ : LC :=
 .seq (.ops [.s 2 (.mov (.const (.string ⟨#[]⟩)))]) (.seq (.seq (.ops [.m 3 0, .c1 4 162 3, .nt 5 4]) (.cond (.tmp 5) (.seq (.ops [.s 2 (.mov (.const (.string ⟨#[]⟩)))]) .ret) .skip)) (.seq (.ops [.m 6 0, .c1 7 163 6, .m
 2 7]) .ret))
def wk_ : LF := ⟨1, 8, zF_, [.tmp 2]⟩
theorem Bb_ : at_ Tryz.prog Tryz.f132 wk_ := ai_
theorem mH_ (xs : List ByteArray) (hx : xs.length ≤ 1048576) (h : List Row) : aa_ Tryz.prog 132 [.list 0 1 (xs.map am_)] h (.val (.string (txt (i0_ xs)))) := by
 refine aj_ mixed Tryz.func132 Bb_ rfl rfl ?_ h
 simp (disch := omega) only [wk_, zF_, go_sem, reduceCtorEq, ↓reduceIte]
 repeat' (first
  | exact af_ _ _
  | (refine bs_ ?_; simp [i0_, *]; done)
  | simp (disch := omega) only [go_sem, reduceCtorEq, ↓reduceIte]
  | (refine aa_.call (d5_ _ hx _) ?_)
  | (refine aa_.q (d5_ _ hx _) ?_)
  | (refine aa_.call (bM_ _ hx _) ?_)
  | (refine aa_.q (bM_ _ hx _) ?_)
  | (refine aa_.call (gZ_ _ (by assumption) _) ?_)
  | (refine aa_.q (gZ_ _ (by assumption) _) ?_)
  | ((first | (apply aS_; assumption) | (apply aT_; assumption) | (apply a8_; assumption) | (apply a9_; assumption)); intro hb; try simp only [hb])
  | ((first | (apply aF_; assumption) | (apply aE_; assumption) | (apply aN_; assumption) | (apply aO_; assumption)); intro hb; try simp only [hb])
  | ((first | apply az_ | apply aC_ | apply ak_ | apply an_) <;> intro hb <;> (try simp only [hb]) <;> (first | have hp := aV_ hb | have hp := aU_ hb | have hp := aW_ hb | have hp := aX_ hb | skip)))
def gE_ (s : List ByteArray) : Bool := decide (0 < (s.length : Int)) && decide ((s.length : Int) ≤ 4) && bh_ (bQ_ s) && (decide (dT_ s = txt []) || bR_ (dT_ s))
def vE_ : LC :=
 .seq (.ops [.s 2 (.mov (.const (.bool false)))]) (.seq (.ops [.m 4 0, .ll 5 4, .m 3 5]) (.seq (.ops [.m 6 3, .bk 7 .gtr false 6 0, .m 8 7, .g 9 8 true (.mov (.tmp 3)), .g 10 8 true (.bin .leq false (.tmp 9) (.const (.int
 .i64 4))), .pf 11 8 10, .m 12 11, .g 13 12 true (.mov (.tmp 0)), .g 14 12 true (.mov (.tmp 3)), .g 15 12 true (.bin .sub false (.tmp 14) (.const (.int .i64 1))), .g 16 12 true (.sliceSl 1 (.tmp 13) none (some (.tmp
 15))), .g 17 12 true (.call 125 [.tmp 16]), .pf 18 12 17, .m 19 18, .g 20 19 true (.mov (.tmp 0)), .g 21 19 true (.mov (.tmp 3)), .g 22 19 true (.bin .sub false (.tmp 21) (.const (.int .i64 1))), .g 23 19 true
 (.indexAddr 1 (.tmp 20) (.tmp 22)), .g 24 19 true (.load none (.tmp 23)), .g 25 19 true (.bin .eql false (.tmp 24) (.const (.string ⟨#[]⟩))), .g 26 19 true (.mov (.tmp 25)), .g 27 26 false (.mov (.tmp 0)), .g 28 26 false
 (.mov (.tmp 3)), .g 29 26 false (.bin .sub false (.tmp 28) (.const (.int .i64 1))), .g 30 26 false (.indexAddr 1 (.tmp 27) (.tmp 29)), .g 31 26 false (.load none (.tmp 30)), .g 32 26 false (.call 123 [.tmp 31]), .g 33 19
 true (.pick (.tmp 26) (.const (.bool true)) (.tmp 32)), .pf 34 19 33, .m 2 34]) .ret))
def sn_ : LF := ⟨1, 35, vE_, [.tmp 2]⟩
theorem Cr_ : at_ Tryz.prog Tryz.f167 sn_ := ai_
theorem h1_ (s : List ByteArray) (hs : s.length ≤ 1048576) (h : List Row) : aa_ Tryz.prog 167 [.list 0 1 (s.map am_)] h (.val (.bool (gE_ s))) := by
 refine aj_ mixed Tryz.func167 Cr_ rfl rfl ?_ h
 by_cases h0 : 0 < s.length
 case neg =>
  have h0' : ((0 : Int) < (s.length : Int)) = False := eq_false (by omega)
  simp (disch := omega) only [sn_, vE_, h0', go_sem, Nat.reduceEqDiff, reduceCtorEq, ↓reduceIte]
  exact ae_ (by simp [gE_, h0])
 have h0' : ((0 : Int) < (s.length : Int)) = True := eq_true (by omega)
 have hfr : s.take (s.length - 1) = bQ_ s := rfl
 have hfl : (bQ_ s).length ≤ 1048576 := by rw [bQ_, length_take]; omega
 have hn1 : (s.length : Int) - 1 = ((s.length - 1 : Nat) : Int) := by omega
 have hlt : s.length - 1 < s.length := by omega
 have hle : s.length - 1 ≤ s.length := by omega
 simp (disch := omega) only [sn_, vE_, h0', go_sem, Nat.reduceEqDiff, reduceCtorEq, ↓reduceIte]
 repeat' (first
  | exact af_ _ _
  | (refine ae_ ?_; simp only [gE_, *, Bool.true_and, Bool.and_false, Bool.false_and, Bool.true_or, Bool.false_or, decide_true, decide_false, Bool.and_self]; done)
  | (refine ae_ ?_; simp [gE_, *]; done)
  | simp (disch := omega) only [hn1, hle, fh_, hfr, f7_, am_, bG_, go_sem, Nat.reduceEqDiff, reduceCtorEq, ↓reduceIte]
  | (refine aa_.call (bM_ _ hfl _) ?_)
  | (refine aa_.q (bM_ _ hfl _) ?_)
  | (refine aa_.call (dY_ _ _) ?_)
  | (refine aa_.q (dY_ _ _) ?_)
  | ((first | (apply aS_; assumption) | (apply aT_; assumption) | (apply a8_; assumption) | (apply a9_; assumption)); intro hb; try simp only [hb])
  | ((first | (apply aF_; assumption) | (apply aE_; assumption) | (apply aN_; assumption) | (apply aO_; assumption)); intro hb; try simp only [hb])
  | ((first | apply az_ | apply aC_ | apply ak_ | apply an_) <;> intro hb <;> (try simp only [hb]) <;> (first | have hp := aV_ hb | have hp := aU_ hb | have hp := aW_ hb | have hp := aX_ hb | skip)))
def CJ_ : LC :=
 .seq (.ops [.s 4 (.box 30 (.tmp 0)), .s 8 (.mov (.const (.string ⟨#[]⟩)))]) (.seq (.seq (.ops [.ld 9 1 4, .c1 10 41 9, .nt 11 10, .m 12 11, .g 13 12 false (.mov (.tmp 1)), .g 14 12 false (.call 158 [.tmp 13]), .g 15 12
 false (.un .not (.tmp 14)), .pt 16 12 15, .m 17 16, .g 18 17 false (.mov (.tmp 2)), .g 19 17 false (.call 167 [.tmp 18]), .g 20 17 false (.un .not (.tmp 19)), .pt 21 17 20]) (.cond (.tmp 21) (.seq (.ops [.s 8 (.mov
 (.const (.string ⟨#[]⟩)))]) .ret) .skip)) (.seq (.ops [.ld 22 1 4, .m 23 1, .m 24 2, .m 25 3, .s 26 (.call 168 [.tmp 22, .tmp 23, .tmp 24, .tmp 25]), .m 8 26]) .ret))
def xX_ : LF := ⟨4, 27, CJ_, [.tmp 8]⟩
theorem Du_ : at_ Tryz.prog Tryz.f130 xX_ := ai_
theorem mr_ (x : ad_) (n : ByteArray) (s : List ByteArray) (back : Bool) (hx : ad_.sz x ≤ 1048576) (hn : n.size ≤ 1048576) (hs : ao_ ByteArray.size s ≤ 1048576) (ht : aH_ x = true) (h1 : bV_ n = true) (h2 : gE_ s = true) (h0 : 0 < s.length) (h : List Row) : aa_ Tryz.prog 130 [.agg (ad_.cells x), .val (.string n), .list 0 1 (s.map am_), .val (.bool back)] h (.val (.string (fI_ x n s back))) := by
 refine aj_ mixed Tryz.func130 Du_ rfl rfl ?_ h
 simp (disch := omega) only [xX_, CJ_, ad_.cells, go_sem, Nat.reduceEqDiff, ↓reduceIte]
 repeat' (first
  | exact af_ _ _
  | simp (disch := omega) only [ht, h1, h2, go_sem, Nat.reduceEqDiff, ↓reduceIte]
  | (refine aa_.call (show aa_ Tryz.prog 41 [.agg [.list 0 3 (x.Nodes.map ac_.cells)]] _ _ from cL_ x hx _) ?_)
  | (refine aa_.q (show aa_ Tryz.prog 41 [.agg [.list 0 3 (x.Nodes.map ac_.cells)]] _ _ from cL_ x hx _) ?_)
  | (refine aa_.call (bO_ _ hn _) ?_)
  | (refine aa_.q (bO_ _ hn _) ?_)
  | (refine aa_.call (h1_ _ (ax_ hs) _) ?_)
  | (refine aa_.q (h1_ _ (ax_ hs) _) ?_)
  | (refine aa_.call (show aa_ Tryz.prog 168 [.agg [.list 0 3 (x.Nodes.map ac_.cells)], .val (.string n), .list 0 1 (s.map am_), .val (.bool back)] _ _ from id_ x n s back hx hs h0 _) ?_)
  | (refine aa_.q (show aa_ Tryz.prog 168 [.agg [.list 0 3 (x.Nodes.map ac_.cells)], .val (.string n), .list 0 1 (s.map am_), .val (.bool back)] _ _ from id_ x n s back hx hs h0 _) ?_)
  | ((first | (apply aS_; assumption) | (apply aT_; assumption) | (apply a8_; assumption) | (apply a9_; assumption)); intro hb; try simp only [hb])
  | ((first | (apply aF_; assumption) | (apply aE_; assumption) | (apply aN_; assumption) | (apply aO_; assumption)); intro hb; try simp only [hb])
  | ((first | apply az_ | apply aC_ | apply ak_ | apply an_) <;> intro hb <;> (try simp only [hb]) <;> (first | have hp := aV_ hb | have hp := aU_ hb | have hp := aW_ hb | have hp := aX_ hb | skip)))
def zh_ : LC :=
 .seq (.ops [.s 1 (.box 79 (.tmp 0)), .s 2 (.alloc 79 (.agg #[.int .i64 0, .string ⟨#[]⟩, .slice none 0 0, .string ⟨#[]⟩, .int .i64 0]))]) (.seq (.ops [.fa 3 2 1, .ln 4 3, .c1 5 144 4, .fa 6 2 1, .st 1 6 5]) (.seq (.ops
 [.ld 7 5 1, .st 5 2 7]) .ret))
def xl_ : LF := ⟨1, 8, zh_, [.cell 2 (some 5)]⟩
theorem Ad_ : at_ Tryz.prog Tryz.f148 xl_ := ai_
def Bn_ : LC :=
 .seq (.ops [.s 1 (.box 79 (.tmp 0)), .s 2 (.alloc 79 (.agg #[.int .i64 0, .string ⟨#[]⟩, .slice none 0 0, .string ⟨#[]⟩, .int .i64 0]))]) (.seq (.ops [.fa 3 2 1, .ln 4 3, .c1 5 85 4, .fa 6 2 1, .st 1 6 5]) (.seq (.ops
 [.ld 7 5 1, .st 5 2 7]) .ret))
def wH_ : LF := ⟨1, 8, Bn_, [.cell 2 (some 5)]⟩
theorem CD_ : at_ Tryz.prog Tryz.f127 wH_ := ai_
theorem jW_ (x : ab_) (hx : ab_.sz x ≤ 1048576) : aP_ Tryz.prog 148 [.agg (ab_.cells x)] (.agg (ab_.cells x)) (fun a => ∃ l, a = .agg [.val (.int .i64 x.Kind), .val (.string x.Name), .own l x.Subs.length, .val (.string x.Value), .val (.int .i64 x.N)]) := by
 refine bT_ mixed Tryz.func148 Ad_ rfl (fun h0 => ?_)
 have h2 := ax_ (ab_.sz_Subs hx)
 simp (disch := omega) only [xl_, zh_, ab_.cells, go_sem, Nat.reduceEqDiff, Nat.reduceAdd, ↓reduceIte]
 refine bJ_ (b1_ x.Subs h2) (fun av H1 m1 F1 q1 => ?_)
 obtain ⟨l, rfl⟩ := q1
 have p0 := m1.at (i := h0.length) (by rw [cy_]; rfl)
 have p1 := m1.at (i := h0.length + 1) (by rw [b8_]; rfl)
 have l1 := m1.len
 simp only [la_, lc_, ln_] at l1
 have s0 := fun r => hV_ p0 r
 have z1 := fun r : Row => (getElem?_set_ne (l := H1) (a := r) (show h0.length ≠ h0.length + 1 by omega)).trans p1
 have s1 := fun r r' => hV_ (z1 r) r'
 simp (disch := omega) only [p0, s0, z1, s1, go_sem, Nat.reduceEqDiff, Nat.reduceAdd, Nat.reduceLeDiff, ↓reduceIte]
 refine ⟨⟨(((aJ_.app h0 _).trans m1).set (Nat.le_refl _)).set (by omega), aA_.agg (ap_.val _ (ap_.val _ (ap_.cons (mid := H1.length) ((F1.tree.keep (fun y q1 q2 => ?_)).widen (by simp) (Nat.le_refl _)) (ap_.val _ (ap_.val _ (ap_.nil _ _ _))) ⟨by omega, by simp⟩)))⟩, _, rfl⟩
 simp only [la_, lc_, ln_] at q1
 rw [getElem?_set_ne (by omega), getElem?_set_ne (by omega)]
theorem lt_ (x : ab_) (hx : ab_.sz x ≤ 1048576) : aP_ Tryz.prog 127 [.agg (ab_.cells x)] (.agg (ab_.cells x)) (fun a => ∃ l, a = .agg [.val (.int .i64 x.Kind), .val (.string x.Name), .own l x.Subs.length, .val (.string x.Value), .val (.int .i64 x.N)]) := by
 refine bT_ mixed Tryz.func127 CD_ rfl (fun h0 => ?_)
 have h2 := ax_ (ab_.sz_Subs hx)
 simp (disch := omega) only [wH_, Bn_, ab_.cells, go_sem, Nat.reduceEqDiff, Nat.reduceAdd, ↓reduceIte]
 refine bJ_ (d1_ x.Subs h2) (fun av H1 m1 F1 q1 => ?_)
 obtain ⟨l, rfl⟩ := q1
 have p0 := m1.at (i := h0.length) (by rw [cy_]; rfl)
 have p1 := m1.at (i := h0.length + 1) (by rw [b8_]; rfl)
 have l1 := m1.len
 simp only [la_, lc_, ln_] at l1
 have s0 := fun r => hV_ p0 r
 have z1 := fun r : Row => (getElem?_set_ne (l := H1) (a := r) (show h0.length ≠ h0.length + 1 by omega)).trans p1
 have s1 := fun r r' => hV_ (z1 r) r'
 simp (disch := omega) only [p0, s0, z1, s1, go_sem, Nat.reduceEqDiff, Nat.reduceAdd, Nat.reduceLeDiff, ↓reduceIte]
 refine ⟨⟨(((aJ_.app h0 _).trans m1).set (Nat.le_refl _)).set (by omega), aA_.agg (ap_.val _ (ap_.val _ (ap_.cons (mid := H1.length) ((F1.tree.keep (fun y q1 q2 => ?_)).widen (by simp) (Nat.le_refl _)) (ap_.val _ (ap_.val _ (ap_.nil _ _ _))) ⟨by omega, by simp⟩)))⟩, _, rfl⟩
 simp only [la_, lc_, ln_] at q1
 rw [getElem?_set_ne (by omega), getElem?_set_ne (by omega)]
def i3_ (x : ad_) (e : ab_) : ab_ := if (cQ_ e.Name e.Subs x.Nodes).2 = true then { e with N := 1, Value := txt (i0_ (cQ_ e.Name e.Subs x.Nodes).1) } else { e with N := 0, Value := txt [] }
def bn_ (x : ad_) (e : ab_) : ab_ :=
 if e.Kind = 1 then { e with Value := (fb_ x e.Name e.Subs).1, N := hK_ x e.Name e.Subs }
 else if e.Kind = 4 then { e with N := hK_ x e.Name e.Subs }
 else if e.Kind = 5 then { e with Value := fI_ x e.Name e.Subs (decide (e.N < 0)) }
 else i3_ x e
abbrev gK_ (e : ab_) (a : AV) : Prop := ∃ l v k, a = .agg [.val (.int .i64 e.Kind), .val (.string e.Name), .own l e.Subs.length, .val (.string v), .val (.int .i64 k)]
theorem g8_ {e : ab_} (h : bx_ e = true) (hk : ¬ e.Kind = 5) : cR_ e.Name e.Subs = true := by
 unfold bx_ at h
 rw [if_neg hk] at h
 simp only [Bool.and_eq_true] at h
 simp [cR_, h.1.1, h.2]
theorem iV_ {e : ab_} (h : bx_ e = true) (hk : e.Kind = 5) : bV_ e.Name = true ∧ gE_ e.Subs = true ∧ 0 < e.Subs.length := by
 unfold bx_ at h
 rw [if_pos hk] at h
 simp only [Bool.and_eq_true, decide_eq_true_eq] at h
 obtain ⟨⟨h1, _⟩, h2, h3⟩ := h
 unfold gv_ at h3
 simp only [Bool.and_eq_true, Bool.or_eq_true, decide_eq_true_eq] at h3
 obtain ⟨h4, h5⟩ := h3
 have h0 : 0 < e.Subs.length := by omega
 refine ⟨h1, ?_, h0⟩
 simp only [gE_, Bool.and_eq_true, Bool.or_eq_true, decide_eq_true_eq]
 rcases h5 with h5 | ⟨h5, h6⟩
 ·simp only [bh_, Bool.and_eq_true, decide_eq_true_eq, all_eq_true] at h5 ⊢
  refine ⟨⟨⟨h4, h2⟩, ?_, fun x hx => h5.2 x (mem_of_mem_take hx)⟩, .inr (h5.2 _ ?_)⟩
  ·rw [bQ_, length_take]; omega
  ·rw [← f7_ e.Subs (by omega)]; exact getElem_mem _
 ·exact ⟨⟨⟨h4, h2⟩, h6⟩, .inl h5⟩
theorem n1_ (n : ByteArray) (s : List ByteArray) {x : ad_} (hx : ad_.sz x ≤ 1048576) : (cQ_ n s x.Nodes).1.length ≤ 1048576 := by
 have hz := ad_.sz_Nodes hx
 have hm : ∀ a ∈ x.Nodes, ac_.sz a ≤ 1048576 := fun a ha => b6_ hz ha
 clear hz hx
 generalize x.Nodes = ns at hm ⊢
 induction ns with
 | nil => simp [cQ_]
 | cons a r ih =>
  unfold cQ_
  split
  ·exact ax_ (ac_.sz_Subs (hm a (by simp)))
  ·exact ih fun b hb => hm b (by simp [hb])
theorem tq_ {x : ad_} {n : ByteArray} {s : List ByteArray} (h : (fb_ x n s).2 = false) : (fb_ x n s).1 = txt [] := by
 unfold fb_ at h ⊢
 split at h
 ·split at h
  ·cases h
  ·rename_i q1 q2; rw [if_neg q2]
 ·rfl
def c98 : LC :=
 .seq (.ops [.s 2 (.box 30 (.tmp 0)), .s 3 (.box 79 (.tmp 1)), .s 4 (.alloc 79 (.agg #[.int .i64 0, .string ⟨#[]⟩, .slice none 0 0, .string ⟨#[]⟩, .int .i64 0]))]) (.seq (.ops [.ld 8 5 3, .c1 9 148 8, .s 5 (.alloc 79
 (.agg #[.int .i64 0, .string ⟨#[]⟩, .slice none 0 0, .string ⟨#[]⟩, .int .i64 0])), .st 5 5 9]) (.seq (.seq (.ops [.fa 10 0 3, .ln 11 10]) (.block 0 (.seq (.ops [.bk 13 .eql false 11 1, .m 12 13]) (.cond (.tmp 12) (.seq
 (.ops [.ld 15 1 2, .fa 16 1 3, .ln 17 16, .fa 18 2 3, .ln 19 18, .c3 20 149 15 17 19, .m 14 20, .ex 21 14 0, .ex 22 14 1, .fa 23 3 5, .st 1 23 21]) (.ops [.ld 24 1 2, .fa 25 1 3, .ln 26 25, .fa 27 2 3, .ln 28 27, .c3 29
 150 24 26 28, .fa 30 4 5, .st 1 30 29])) (.seq (.ops [.bk 32 .eql false 11 4, .m 31 32]) (.cond (.tmp 31) (.ops [.ld 33 1 2, .fa 34 1 3, .ln 35 34, .fa 36 2 3, .ln 37 36, .c3 38 150 33 35 37, .fa 39 4 5, .st 1 39 38])
 (.seq (.ops [.bk 41 .eql false 11 5, .m 40 41]) (.cond (.tmp 40) (.ops [.ld 42 1 2, .fa 43 1 3, .ln 44 43, .fa 45 2 3, .ln 46 45, .fa 47 4 3, .ln 48 47, .bk 49 .lss false 48 0, .s 50 (.call 151 [.tmp 42, .tmp 44, .tmp
 46, .tmp 49]), .fa 51 3 5, .st 1 51 50]) (.seq (.ops [.bk 53 .eql false 11 6, .m 52 53]) (.cond (.tmp 52) (.seq (.ops [.fa 54 4 5, .z (.store 1 (.tmp 54) (.const (.int .i64 0))), .fa 55 3 5, .z (.store 1 (.tmp 55)
 (.const (.string ⟨#[]⟩)))]) (.seq (.ops [.ld 57 1 2, .fa 58 1 3, .ln 59 58, .fa 60 2 3, .ln 61 60, .c3 62 152 57 59 61, .m 56 62, .ex 63 56 0, .ex 64 56 1, .m 6 63, .m 7 64]) (.seq (.ops [.m 65 7]) (.cond (.tmp 65) (.ops
 [.m 66 6, .c1 67 153 66, .fa 68 4 5, .z (.store 1 (.tmp 68) (.const (.int .i64 1))), .fa 69 3 5, .st 1 69 67]) .skip)))) .skip)))))))))) (.seq (.ops [.ld 70 5 5, .st 5 4 70]) .ret)))
def zp_ : LF := ⟨2, 71, c98, [.cell 4 (some 5)]⟩
theorem D4_ : at_ Tryz.prog Tryz.f98 zp_ := ai_
theorem jc_ (x : ad_) (e : ab_) (hx : ad_.sz x ≤ 1048576) (he : ab_.sz e ≤ 1048576) (ht : aH_ x = true) (hn : bx_ e = true) (hr : bF_ e = true) : aP_ Tryz.prog 98 [.agg (ad_.cells x), .agg (ab_.cells e)] (.agg (ab_.cells (bn_ x e))) (gK_ e) := by
 refine bT_ mixed Tryz.func98 D4_ rfl (fun h0 => ?_)
 have hs := ab_.sz_Subs he
 have hsl := ax_ hs
 have hnm := ab_.sz_Name he
 simp (disch := omega) only [zp_, c98, ad_.cells, ab_.cells, go_sem, Nat.reduceEqDiff, Nat.reduceAdd, ↓reduceIte]
 refine bJ_ (jW_ e he) (fun av H1 m1 F1 q1 => ?_)
 obtain ⟨l, rfl⟩ := q1
 have p0 := m1.at (i := h0.length) (by rw [cy_]; rfl)
 have p1 := m1.at (i := h0.length + 1) (by rw [b8_]; rfl)
 have p2 := m1.at (i := h0.length + 2) (by rw [b8_]; rfl)
 have l1 := m1.len
 simp only [la_, lc_, ln_] at l1
 have m0 := (aJ_.app h0 _).trans m1
 have hR : bn_ x e = bn_ x e := rfl
 have fin : ∀ (H' : List Row) (v : ByteArray) (k : Int), v = (bn_ x e).Value → k = (bn_ x e).N → e.Kind = (bn_ x e).Kind → e.Name = (bn_ x e).Name → e.Subs = (bn_ x e).Subs → H1.length ≤ H'.length → (∀ y, h0.length + 3 ≤ y → y < H1.length → H'[y]? = H1[y]?) → aJ_ h0 H' →
  Res h0 H' (.agg [.val (.int .i64 e.Kind), .val (.string e.Name), .own l e.Subs.length, .val (.string v), .val (.int .i64 k)]) (.agg (ab_.cells (bn_ x e))) ∧ gK_ e (.agg [.val (.int .i64 e.Kind), .val (.string e.Name), .own l e.Subs.length, .val (.string v), .val (.int .i64 k)]) := by
  intro H' v k e1 e2 e3 e4 e5 hl hk hm
  refine ⟨⟨hm, ?_⟩, l, v, k, rfl⟩
  have hc : ab_.cells (bn_ x e) = [.val (.int .i64 e.Kind), .val (.string e.Name), .list 0 1 (e.Subs.map am_), .val (.string v), .val (.int .i64 k)] := by
   rw [ab_.cells, ← e1, ← e2, ← e3, ← e4, ← e5]
  rw [hc]
  have F2 := F1.tree.unagg.rest.rest.head
  refine aA_.agg (ap_.val _ (ap_.val _ (ap_.cons (mid := H1.length) ((F2.keep (fun y q1 q2 => hk y ?_ q2)).widen (by simp) (Nat.le_refl _)) (ap_.val _ (ap_.val _ (ap_.nil _ _ _))) ⟨by omega, hl⟩)))
  simp only [la_, lc_, ln_] at q1
  omega
 have fin2 : ∀ (H' : List Row) (v : ByteArray) (k : Int), { e with Value := v, N := k } = bn_ x e → H1.length ≤ H'.length → (∀ y, h0.length + 3 ≤ y → y < H1.length → H'[y]? = H1[y]?) → aJ_ h0 H' →
  Res h0 H' (.agg [.val (.int .i64 e.Kind), .val (.string e.Name), .own l e.Subs.length, .val (.string v), .val (.int .i64 k)]) (.agg (ab_.cells (bn_ x e))) ∧ gK_ e (.agg [.val (.int .i64 e.Kind), .val (.string e.Name), .own l e.Subs.length, .val (.string v), .val (.int .i64 k)]) :=
  fun H' v k q => fin H' v k (by rw [← q]) (by rw [← q]) (by rw [← q]) (by rw [← q]) (by rw [← q])
 have hget : ∀ H, aa_ Tryz.prog 149 [.agg [.list 0 3 (x.Nodes.map ac_.cells)], .val (.string e.Name), .list 0 1 (e.Subs.map am_)] H (li_ (fb_ x e.Name e.Subs)) := fun H => l5_ x e.Name e.Subs hx hs ht H
 have hdat : ∀ H, aa_ Tryz.prog 150 [.agg [.list 0 3 (x.Nodes.map ac_.cells)], .val (.string e.Name), .list 0 1 (e.Subs.map am_)] H (.val (.int .i64 (hK_ x e.Name e.Subs))) := fun H => lr_ x e.Name e.Subs hx hsl H
 by_cases k1 : e.Kind = 1
 ·simp (disch := (first | omega | (simp only [ls_, la_, lc_, ln_]; first | done | omega))) only [aD_, aw_, aQ_, ag_, go_sem, Nat.reduceEqDiff, Nat.reduceAdd, Nat.reduceLeDiff, ↓reduceIte, p0, p1, p2, k1, Int.reduceEq]
  refine aa_.call (hget _) ?_
  simp (disch := (first | omega | (simp only [ls_, la_, lc_, ln_]; first | done | omega))) only [aw_, aQ_, go_sem, Nat.reduceEqDiff, Nat.reduceAdd, Nat.reduceLeDiff, ↓reduceIte, p0, p1, k1]
  refine aa_.call (hdat _) ?_
  simp (disch := (first | omega | (simp only [ls_, la_, lc_, ln_]; first | done | omega))) only [aD_, aw_, aQ_, go_sem, Nat.reduceEqDiff, Nat.reduceAdd, ↓reduceIte, p2]
  rw [← k1]
  refine fin2 _ _ _ (by simp [bn_, k1]) (by simp) (fun y q1 q2 => by rw [ar_ (by omega), aw_ (by omega)]) ((m0.add _).set (by omega))
 by_cases k4 : e.Kind = 4
 ·simp (disch := (first | omega | (simp only [ls_, la_, lc_, ln_]; first | done | omega))) only [aD_, aw_, aQ_, ag_, go_sem, Nat.reduceEqDiff, Nat.reduceAdd, Nat.reduceLeDiff, ↓reduceIte, p0, p1, p2, k4, Int.reduceEq]
  refine aa_.call (hdat _) ?_
  simp (disch := (first | omega | (simp only [ls_, la_, lc_, ln_]; first | done | omega))) only [aD_, aw_, aQ_, go_sem, Nat.reduceEqDiff, Nat.reduceAdd, ↓reduceIte, p2]
  rw [← k4]
  refine fin2 _ _ _ (by simp [bn_, k4]) (by simp) (fun y q1 q2 => by rw [ar_ (by omega), aw_ (by omega)]) ((m0.add _).set (by omega))
 by_cases k5 : e.Kind = 5
 ·obtain ⟨_, _, hpos⟩ := iV_ hn k5
  simp (disch := (first | omega | (simp only [ls_, la_, lc_, ln_]; first | done | omega))) only [aD_, aw_, aQ_, ag_, go_sem, Nat.reduceEqDiff, Nat.reduceAdd, Nat.reduceLeDiff, ↓reduceIte, p0, p1, p2, k5, Int.reduceEq]
  refine aa_.call (show aa_ Tryz.prog 151 [.agg [.list 0 3 (x.Nodes.map ac_.cells)], .val (.string e.Name), .list 0 1 (e.Subs.map am_), .val (.bool _)] _ _ from k4_ x e.Name e.Subs _ hx hs hpos _) ?_
  simp (disch := (first | omega | (simp only [ls_, la_, lc_, ln_]; first | done | omega))) only [aD_, aw_, aQ_, go_sem, Nat.reduceEqDiff, Nat.reduceAdd, Nat.reduceLeDiff, ↓reduceIte, p2]
  rw [← k5]
  refine fin2 _ _ _ (by simp [bn_, k5]) (by simp) (fun y q1 q2 => by rw [ar_ (by omega), aw_ (by omega)]) ((m0.add _).set (by omega))
 have k6 : e.Kind = 6 := by
  simp only [bF_, Bool.or_eq_true, decide_eq_true_eq] at hr
  omega
 have hth := g8_ hn k5
 have hq : c7_ x e.Name e.Subs = cQ_ e.Name e.Subs x.Nodes := by rw [c7_, ht, hth]; rfl
 have hqc : ∀ H, aa_ Tryz.prog 152 [.agg [.list 0 3 (x.Nodes.map ac_.cells)], .val (.string e.Name), .list 0 1 (e.Subs.map am_)] H (jx_ (cQ_ e.Name e.Subs x.Nodes)) := fun H => by
  have := (kQ_ x e.Name e.Subs hx hnm hs).pure rfl H
  rwa [hq] at this
 have hqs := n1_ e.Name e.Subs hx
 simp (disch := (first | omega | (simp only [ls_, la_, lc_, ln_]; first | done | omega))) only [aD_, aw_, aQ_, ag_, go_sem, Nat.reduceEqDiff, Nat.reduceAdd, Nat.reduceLeDiff, ↓reduceIte, p0, p1, p2, k6, Int.reduceEq]
 refine aa_.call (hqc _) ?_
 cases hb : (cQ_ e.Name e.Subs x.Nodes).2
 ·simp (disch := (first | omega | (simp only [ls_, la_, lc_, ln_]; first | done | omega))) only [aD_, aw_, aQ_, ag_, go_sem, Nat.reduceEqDiff, Nat.reduceAdd, ↓reduceIte, p2, hb]
  rw [← k6]
  refine fin2 _ _ _ (by simp [bn_, k6, i3_, hb]) (by simp) (fun y q1 q2 => by rw [ar_ (by omega), aw_ (by omega)]) ((m0.add _).set (by omega))
 ·simp (disch := (first | omega | (simp only [ls_, la_, lc_, ln_]; first | done | omega))) only [aD_, aw_, aQ_, ag_, go_sem, Nat.reduceEqDiff, Nat.reduceAdd, ↓reduceIte, p2, hb]
  refine aa_.call (iJ_ _ hqs _) ?_
  simp (disch := (first | omega | (simp only [ls_, la_, lc_, ln_]; first | done | omega))) only [aD_, aw_, aQ_, go_sem, Nat.reduceEqDiff, Nat.reduceAdd, Nat.reduceLeDiff, ↓reduceIte, p2]
  rw [← k6]
  refine fin2 _ _ _ (by simp [bn_, k6, i3_, hb]) (by simp) (fun y q1 q2 => by rw [ar_ (by omega), aw_ (by omega)]) ((m0.add _).set (by omega))
def c83 : LC :=
 .seq (.ops [.s 2 (.box 30 (.tmp 0)), .s 3 (.box 79 (.tmp 1)), .s 4 (.alloc 79 (.agg #[.int .i64 0, .string ⟨#[]⟩, .slice none 0 0, .string ⟨#[]⟩, .int .i64 0]))]) (.seq (.ops [.ld 9 5 3, .c1 10 127 9, .st 5 3 10]) (.seq
 (.seq (.ops [.fa 11 0 3, .ln 12 11]) (.block 0 (.seq (.ops [.bk 30 .eql false 12 1, .m 29 30]) (.cond (.tmp 29) (.seq (.ops [.ld 32 1 2, .fa 33 1 3, .ln 34 33, .fa 35 2 3, .ln 36 35, .c3 37 128 32 34 36, .m 31 37, .ex 38
 31 0, .ex 39 31 1, .m 5 38, .m 6 39]) (.seq (.ops [.fa 40 3 3, .z (.store 1 (.tmp 40) (.const (.string ⟨#[]⟩)))]) (.seq (.seq (.ops [.m 41 6]) (.cond (.tmp 41) (.ops [.m 42 5, .fa 43 3 3, .st 1 43 42]) .skip)) (.ops [.ld
 44 1 2, .fa 45 1 3, .ln 46 45, .fa 47 2 3, .ln 48 47, .c3 49 129 44 46 48, .fa 50 4 3, .st 1 50 49])))) (.seq (.ops [.bk 52 .eql false 12 4, .m 51 52]) (.cond (.tmp 51) (.ops [.ld 53 1 2, .fa 54 1 3, .ln 55 54, .fa 56 2
 3, .ln 57 56, .c3 58 129 53 55 57, .fa 59 4 3, .st 1 59 58]) (.seq (.ops [.bk 61 .eql false 12 5, .m 60 61]) (.cond (.tmp 60) (.ops [.ld 62 1 2, .fa 63 1 3, .ln 64 63, .fa 65 2 3, .ln 66 65, .fa 67 4 3, .ln 68 67, .bk 69
 .lss false 68 0, .s 70 (.call 130 [.tmp 62, .tmp 64, .tmp 66, .tmp 69]), .fa 71 3 3, .st 1 71 70]) (.seq (.ops [.ld 14 1 2, .fa 15 1 3, .ln 16 15, .fa 17 2 3, .ln 18 17, .c3 19 131 14 16 18, .m 13 19, .ex 20 13 0, .ex 21
 13 1, .m 7 20, .m 8 21]) (.seq (.ops [.fa 22 4 3, .z (.store 1 (.tmp 22) (.const (.int .i64 0)))]) (.seq (.ops [.fa 23 3 3, .z (.store 1 (.tmp 23) (.const (.string ⟨#[]⟩)))]) (.seq (.ops [.m 24 8]) (.cond (.tmp 24) (.seq
 (.ops [.fa 25 4 3, .z (.store 1 (.tmp 25) (.const (.int .i64 1)))]) (.ops [.m 26 7, .c1 27 132 26, .fa 28 3 3, .st 1 28 27])) .skip))))))))))))) (.seq (.ops [.ld 72 5 3, .st 5 4 72]) .ret)))
def Az_ : LF := ⟨2, 73, c83, [.cell 4 (some 5)]⟩
theorem D0_ : at_ Tryz.prog Tryz.f83 Az_ := ai_
theorem kj_ (x : ad_) (e : ab_) (hx : ad_.sz x ≤ 1048576) (he : ab_.sz e ≤ 1048576) (ht : aH_ x = true) (hn : bx_ e = true) (hr : bF_ e = true) : aP_ Tryz.prog 83 [.agg (ad_.cells x), .agg (ab_.cells e)] (.agg (ab_.cells (bn_ x e))) (gK_ e) := by
 refine bT_ mixed Tryz.func83 D0_ rfl (fun h0 => ?_)
 have hs := ab_.sz_Subs he
 have hsl := ax_ hs
 have hnm := ab_.sz_Name he
 simp (disch := omega) only [Az_, c83, ad_.cells, ab_.cells, go_sem, Nat.reduceEqDiff, Nat.reduceAdd, ↓reduceIte]
 refine bJ_ (lt_ e he) (fun av H1 m1 F1 q1 => ?_)
 obtain ⟨l, rfl⟩ := q1
 have p0 := m1.at (i := h0.length) (by rw [cy_]; rfl)
 have p1 := m1.at (i := h0.length + 1) (by rw [b8_]; rfl)
 have p2 := m1.at (i := h0.length + 2) (by rw [b8_]; rfl)
 have l1 := m1.len
 simp only [la_, lc_, ln_] at l1
 have m0 := (aJ_.app h0 _).trans m1
 have F2 := F1.tree.unagg.rest.rest.head
 have harg : ∀ H' : List Row, (∀ y, h0.length + 3 ≤ y → y < H1.length → H'[y]? = H1[y]?) → cg_ H' (.own l e.Subs.length) (.list 0 1 (e.Subs.map am_)) := fun H' hk => (F2.keep (fun y q1 q2 => hk y (by simp only [la_, lc_, ln_] at q1; omega) q2)).arg
 have fin : ∀ (H' : List Row) (v : ByteArray) (k : Int), { e with Value := v, N := k } = bn_ x e → H1.length ≤ H'.length → (∀ y, h0.length + 3 ≤ y → y < H1.length → H'[y]? = H1[y]?) → aJ_ h0 H' →
  Res h0 H' (.agg [.val (.int .i64 e.Kind), .val (.string e.Name), .own l e.Subs.length, .val (.string v), .val (.int .i64 k)]) (.agg (ab_.cells (bn_ x e))) ∧ gK_ e (.agg [.val (.int .i64 e.Kind), .val (.string e.Name), .own l e.Subs.length, .val (.string v), .val (.int .i64 k)]) := by
  intro H' v k q hl hk hm
  refine ⟨⟨hm, ?_⟩, l, v, k, rfl⟩
  rw [← q]
  refine aA_.agg (ap_.val _ (ap_.val _ (ap_.cons (mid := H1.length) ((F2.keep (fun y q1 q2 => hk y ?_ q2)).widen (by simp) (Nat.le_refl _)) (ap_.val _ (ap_.val _ (ap_.nil _ _ _))) ⟨by omega, hl⟩)))
  simp only [la_, lc_, ln_] at q1
  omega
 have hargs : ∀ H' : List Row, (∀ y, h0.length + 3 ≤ y → y < H1.length → H'[y]? = H1[y]?) → a6_ H' [.agg [.list 0 3 (x.Nodes.map ac_.cells)], .val (.string e.Name), .own l e.Subs.length] [.agg [.list 0 3 (x.Nodes.map ac_.cells)], .val (.string e.Name), .list 0 1 (e.Subs.map am_)] := fun H' hk =>
  .cons (.same rfl) (.cons (.same rfl) (.cons (harg H' hk) .nil))
 by_cases k5 : e.Kind = 5
 ·obtain ⟨hno, hlv, hpos⟩ := iV_ hn k5
  simp (disch := (first | omega | (simp only [ls_, la_, lc_, ln_]; first | done | omega))) only [ar_, aD_, ag_, go_sem, Nat.reduceEqDiff, Nat.reduceAdd, ↓reduceIte, p0, p1, k5, Int.reduceEq]
  refine aa_.call (aa_.own (fun h => show aa_ Tryz.prog 130 [.agg [.list 0 3 (x.Nodes.map ac_.cells)], .val (.string e.Name), .list 0 1 (e.Subs.map am_), .val (.bool _)] h _ from mr_ x e.Name e.Subs _ hx hnm hs ht hno hlv hpos h) (.cons (.same rfl) (.cons (.same rfl) (.cons (harg _ ?_) (.cons (.same rfl) .nil))))) ?_
  ·exact fun y q1 q2 => by rw [ar_ (by omega)]
  simp (disch := (first | omega | (simp only [ls_, la_, lc_, ln_]; first | done | omega))) only [ar_, aD_, go_sem, Nat.reduceEqDiff, Nat.reduceAdd, Nat.reduceLeDiff, ↓reduceIte, p2]
  rw [← k5]
  exact fin _ _ _ (by simp [bn_, k5]) (by simp) (fun y q1 q2 => by rw [ar_ (by omega), ar_ (by omega), ar_ (by omega)]) (((m0.set (by omega)).set (by omega)).set (by omega))
 have hth := g8_ hn k5
 have hgv : l6_ x e.Name e.Subs = fb_ x e.Name e.Subs := by rw [l6_, ht, hth]; rfl
 have hdv : (if (aH_ x && cR_ e.Name e.Subs) = true then hK_ x e.Name e.Subs else 0) = hK_ x e.Name e.Subs := by rw [ht, hth]; rfl
 have hget : ∀ H', (∀ y, h0.length + 3 ≤ y → y < H1.length → H'[y]? = H1[y]?) → aa_ Tryz.prog 128 [.agg [.list 0 3 (x.Nodes.map ac_.cells)], .val (.string e.Name), .own l e.Subs.length] H' (li_ (fb_ x e.Name e.Subs)) := fun H' hk =>
  aa_.ownR rfl (fun h => by rw [← hgv]; exact m1_ x e.Name e.Subs hx hnm hs h) (hargs H' hk)
 have hdat : ∀ H', (∀ y, h0.length + 3 ≤ y → y < H1.length → H'[y]? = H1[y]?) → aa_ Tryz.prog 129 [.agg [.list 0 3 (x.Nodes.map ac_.cells)], .val (.string e.Name), .own l e.Subs.length] H' (.val (.int .i64 (hK_ x e.Name e.Subs))) := fun H' hk =>
  aa_.ownR rfl (fun h => by rw [← hdv]; exact nO_ x e.Name e.Subs hx hnm hsl h) (hargs H' hk)
 by_cases k1 : e.Kind = 1
 ·simp (disch := (first | omega | (simp only [ls_, la_, lc_, ln_]; first | done | omega))) only [ar_, aD_, ag_, go_sem, Nat.reduceEqDiff, Nat.reduceAdd, ↓reduceIte, p0, p1, k1, Int.reduceEq]
  refine aa_.call (hget _ (fun y q1 q2 => by rw [ar_ (by omega)])) ?_
  cases hb : (fb_ x e.Name e.Subs).2
  ·simp (disch := (first | omega | (simp only [ls_, la_, lc_, ln_]; first | done | omega))) only [ar_, aD_, ag_, go_sem, Nat.reduceEqDiff, Nat.reduceAdd, Nat.reduceLeDiff, ↓reduceIte, p0, hb]
   refine aa_.call (hdat _ (fun y q1 q2 => by rw [ar_ (by omega), ar_ (by omega)])) ?_
   simp (disch := (first | omega | (simp only [ls_, la_, lc_, ln_]; first | done | omega))) only [ar_, aD_, go_sem, Nat.reduceEqDiff, Nat.reduceAdd, ↓reduceIte, p2]
   rw [← k1]
   exact fin _ _ _ (by simp [bn_, k1, tq_ hb]) (by simp) (fun y q1 q2 => by rw [ar_ (by omega), ar_ (by omega), ar_ (by omega), ar_ (by omega)]) ((((m0.set (by omega)).set (by omega)).set (by omega)).set (by omega))
  ·simp (disch := (first | omega | (simp only [ls_, la_, lc_, ln_]; first | done | omega))) only [ar_, aD_, ag_, go_sem, Nat.reduceEqDiff, Nat.reduceAdd, Nat.reduceLeDiff, ↓reduceIte, p0, hb]
   refine aa_.call (hdat _ (fun y q1 q2 => by rw [ar_ (by omega), ar_ (by omega), ar_ (by omega)])) ?_
   simp (disch := (first | omega | (simp only [ls_, la_, lc_, ln_]; first | done | omega))) only [ar_, aD_, go_sem, Nat.reduceEqDiff, Nat.reduceAdd, ↓reduceIte, p2]
   rw [← k1]
   exact fin _ _ _ (by simp [bn_, k1]) (by simp) (fun y q1 q2 => by rw [ar_ (by omega), ar_ (by omega), ar_ (by omega), ar_ (by omega), ar_ (by omega)]) (((((m0.set (by omega)).set (by omega)).set (by omega)).set (by omega)).set (by omega))
 by_cases k4 : e.Kind = 4
 ·simp (disch := (first | omega | (simp only [ls_, la_, lc_, ln_]; first | done | omega))) only [ar_, aD_, ag_, go_sem, Nat.reduceEqDiff, Nat.reduceAdd, ↓reduceIte, p0, p1, k4, Int.reduceEq]
  refine aa_.call (hdat _ (fun y q1 q2 => by rw [ar_ (by omega)])) ?_
  simp (disch := (first | omega | (simp only [ls_, la_, lc_, ln_]; first | done | omega))) only [ar_, aD_, go_sem, Nat.reduceEqDiff, Nat.reduceAdd, ↓reduceIte, p2]
  rw [← k4]
  exact fin _ _ _ (by simp [bn_, k4]) (by simp) (fun y q1 q2 => by rw [ar_ (by omega), ar_ (by omega), ar_ (by omega)]) (((m0.set (by omega)).set (by omega)).set (by omega))
 have k6 : e.Kind = 6 := by
  simp only [bF_, Bool.or_eq_true, decide_eq_true_eq] at hr
  omega
 have hq : c7_ x e.Name e.Subs = cQ_ e.Name e.Subs x.Nodes := by rw [c7_, ht, hth]; rfl
 have hqc : aP_ Tryz.prog 131 [.agg [.list 0 3 (x.Nodes.map ac_.cells)], .val (.string e.Name), .list 0 1 (e.Subs.map am_)] (jx_ (cQ_ e.Name e.Subs x.Nodes)) (fun a => ∃ b q, a = .tup [b, .val (.bool q)]) := by
  have := k8_ x e.Name e.Subs hx hnm hs
  rwa [hq] at this
 have hqs := n1_ e.Name e.Subs hx
 simp (disch := (first | omega | (simp only [ls_, la_, lc_, ln_]; first | done | omega))) only [ar_, aD_, ag_, go_sem, Nat.reduceEqDiff, Nat.reduceAdd, ↓reduceIte, p0, p1, k6, Int.reduceEq]
 refine m7_ hqc (hargs _ (fun y q1 q2 => by rw [ar_ (by omega)])) (fun av H2 m2 F3 q2 => ?_)
 obtain ⟨b, q, rfl⟩ := q2
 have l2 := m2.len
 rw [ls_] at l2
 have g0 := m2.at (i := h0.length) ((ar_ (by omega)).trans p0)
 have g1 := m2.at (aD_ (i := h0.length + 1) (H := H1) (by omega))
 have g2 := m2.at (i := h0.length + 2) ((ar_ (by omega)).trans p2)
 have gk : ∀ y, h0.length + 3 ≤ y → y < H1.length → H2[y]? = H1[y]? := fun y q1 q2 => by rw [m2.kept y (by rw [ls_]; exact q2), ar_ (by omega)]
 have mm := (m0.set (i := h0.length + 1) (r := _) (by omega)).trans m2
 obtain ⟨hB, hb⟩ := F3.two
 simp only [AV.val.injEq, Value.bool.injEq] at hb
 subst hb
 cases hb : (cQ_ e.Name e.Subs x.Nodes).2
 ·simp (disch := (first | omega | (simp only [ls_, la_, lc_, ln_]; first | done | omega))) only [ar_, aD_, ag_, go_sem, Nat.reduceEqDiff, Nat.reduceAdd, Nat.reduceLeDiff, ↓reduceIte, g1, g2]
  rw [← k6]
  exact fin _ _ _ (by simp [bn_, k6, i3_, hb]) (by simp; omega) (fun y q1 q2 => by rw [ar_ (by omega), ar_ (by omega), ar_ (by omega)]; exact gk y q1 q2) (((mm.set (by omega)).set (by omega)).set (by omega))
 ·simp (disch := (first | omega | (simp only [ls_, la_, lc_, ln_]; first | done | omega))) only [ar_, aD_, ag_, go_sem, Nat.reduceEqDiff, Nat.reduceAdd, Nat.reduceLeDiff, ↓reduceIte, g1, g2]
  refine aa_.call (aa_.own (fun h => mH_ _ hqs h) (.cons (aA_.arg (hB.tree.keep (fun y q1 q2 => ?_))) .nil)) ?_
  ·rw [ls_] at q1
   rw [ar_ (by omega), ar_ (by omega), ar_ (by omega)]
  simp (disch := (first | omega | (simp only [ls_, la_, lc_, ln_]; first | done | omega))) only [ar_, aD_, go_sem, Nat.reduceEqDiff, Nat.reduceAdd, Nat.reduceLeDiff, ↓reduceIte, g2]
  rw [← k6]
  exact fin _ _ _ (by simp [bn_, k6, i3_, hb]) (by simp; omega) (fun y q1 q2 => by rw [ar_ (by omega), ar_ (by omega), ar_ (by omega), ar_ (by omega), ar_ (by omega)]; exact gk y q1 q2) (((((mm.set (by omega)).set (by omega)).set (by omega)).set (by omega)).set (by omega))
theorem gp_ {x : ad_} (h : aH_ x = true) : x.Nodes.length ≤ 120 ∧ ∀ a ∈ x.Nodes, cA_ a = true := by
 simp only [aH_, Bool.and_eq_true, decide_eq_true_eq] at h
 exact ⟨by omega, (fS_ _ _ h.2).2.2⟩
theorem h9_ {a : ac_} (h : cA_ a = true) : bV_ a.Name = true ∧ bh_ a.Subs = true ∧ a.Value.size ≤ 64 := by
 simp only [cA_, cR_, Bool.and_eq_true, decide_eq_true_eq] at h
 exact ⟨h.1.1, h.1.2, by omega⟩
theorem iM_ {s : ByteArray} (h : bV_ s = true) : s.size ≤ 8 := by
 simp only [bV_, Bool.and_eq_true, decide_eq_true_eq] at h
 omega
theorem lI_ {xs : List ByteArray} (h : bh_ xs = true) : ao_ ByteArray.size xs ≤ 100 := by
 obtain ⟨h1, h2⟩ := eH_ h
 have : ∀ ys : List ByteArray, (∀ y ∈ ys, y.size ≤ 24) → bZ_ ByteArray.size ys ≤ 24 * ys.length := by
  intro ys
  induction ys with
  | nil => intro _; simp [bZ_]
  | cons y ys ih =>
   intro hy
   have := ih fun z hz => hy z (by simp [hz])
   have := hy y (by simp)
   simp only [bZ_, lc_]; omega
 have := this xs fun x hx => (h2 x hx).2
 simp only [ao_]; omega
theorem rb_ {xs : List ByteArray} (h : gE_ xs = true) : ao_ ByteArray.size xs ≤ 100 := by
 simp only [gE_, Bool.and_eq_true, Bool.or_eq_true, decide_eq_true_eq] at h
 obtain ⟨⟨⟨h1, h2⟩, h3⟩, h4⟩ := h
 have h5 := eH_ h3
 have hl : (dT_ xs).size ≤ 24 := by
  rcases h4 with q | q
  ·rw [q]; simp [b9_]
  ·simp only [bR_, Bool.and_eq_true, decide_eq_true_eq] at q; omega
 have hx : ∀ y ∈ xs, y.size ≤ 24 := by
  intro y hy
  obtain ⟨i, hi, rfl⟩ := mem_iff_getElem.1 hy
  by_cases q : i < xs.length - 1
  ·have : xs[i] ∈ bQ_ xs := by
    rw [bQ_]
    exact mem_iff_getElem.2 ⟨i, by rw [length_take]; omega, by rw [getElem_take]⟩
   exact (h5.2 _ this).2
  ·have e : i = xs.length - 1 := by omega
   subst e
   rw [f7_ xs hi]; exact hl
 have : ∀ ys : List ByteArray, (∀ y ∈ ys, y.size ≤ 24) → bZ_ ByteArray.size ys ≤ 24 * ys.length := by
  intro ys
  induction ys with
  | nil => intro _; simp [bZ_]
  | cons y ys ih =>
   intro hy
   have := ih fun z hz => hy z (by simp [hz])
   have := hy y (by simp)
   simp only [bZ_, lc_]; omega
 have := this xs hx
 simp only [ao_]; omega
theorem r3_ {e : ab_} (h : bx_ e = true) : e.Name.size + ao_ ByteArray.size e.Subs ≤ 108 := by
 by_cases k5 : e.Kind = 5
 ·obtain ⟨h1, h2, _⟩ := iV_ h k5
  have := iM_ h1
  have := rb_ h2
  omega
 ·have := g8_ h k5
  simp only [cR_, Bool.and_eq_true] at this
  have q1 := iM_ this.1
  have q2 := lI_ this.2
  omega
theorem t6_ {x : ad_} (h : aH_ x = true) (n : ByteArray) (s : List ByteArray) : (fb_ x n s).1.size ≤ 64 := by
 unfold fb_
 split
 ·rename_i a ha
  split
  ·exact (h9_ ((gp_ h).2 a (mem_of_getElem? ha))).2.2
  ·simp [b9_]
 ·simp [b9_]
theorem ra_ {x : ad_} (h : aH_ x = true) (n : ByteArray) (s : List ByteArray) (back : Bool) : (fI_ x n s back).size ≤ 64 := by
 unfold fI_
 have hn := (gp_ h).2
 generalize s.getD (s.length - 1) (txt []) = last
 have : ∀ (ns : List ac_) (b : ByteArray), (∀ a ∈ ns, cA_ a = true) → b.size ≤ 64 → (ns.foldl (fr_ n s back last) b).size ≤ 64 := by
  intro ns
  induction ns with
  | nil => intro b _ hb; exact hb
  | cons a r ih =>
   intro b ha hb
   rw [foldl_cons]
   refine ih _ (fun c hc => ha c (by simp [hc])) ?_
   unfold fr_
   split
   ·rename_i t ht
    split
    ·have := (eH_ (h9_ (ha a (by simp))).2.1).2 t (mem_of_getElem? ht)
     omega
    ·exact hb
   ·exact hb
 exact this _ _ hn (by simp [b9_])
theorem um_ (xs : List ByteArray) : (i0_ xs).length ≤ 300 := by
 unfold i0_
 split
 ·rename_i h
  have := eH_ h
  have := jv_ xs (fun x hx => (this.2 x hx).2)
  omega
 ·simp
theorem lL_ {x : ad_} {e : ab_} (ht : aH_ x = true) (hn : bx_ e = true) (hz : ab_.sz e ≤ 1048576) : ab_.sz (bn_ x e) ≤ 1048576 := by
 have h1 := r3_ hn
 have e1 : ∀ a : ab_, ab_.sz a = a.Name.size + ao_ ByteArray.size a.Subs + a.Value.size := fun _ => rfl
 rw [e1] at hz ⊢
 unfold bn_ i3_
 have v1 := t6_ ht e.Name e.Subs
 have v2 := ra_ ht e.Name e.Subs (decide (e.N < 0))
 have v3 := um_ (cQ_ e.Name e.Subs x.Nodes).1
 (repeat' split) <;> simp only [b9_, ln_] <;> omega
theorem qi_ {e : ab_} (hn : bx_ e = true) (ht : cd_ e = false) : bF_ e = true := by
 simp only [bx_, bi_, Bool.and_eq_true] at hn
 simp only [cd_, Bool.or_eq_false_iff, decide_eq_false_iff_not] at ht
 simp only [bF_, Bool.or_eq_true, decide_eq_true_eq]
 have h2 := hn.1.2
 by_cases k1 : e.Kind = 1
 ·omega
 by_cases k4 : e.Kind = 4
 ·omega
 by_cases k5 : e.Kind = 5
 ·omega
 by_cases k6 : e.Kind = 6
 ·omega
 ·rw [if_neg k1, if_neg k4, if_neg k5, if_neg k6, if_neg ht.1] at h2
  simp only [Bool.and_eq_true, decide_eq_true_eq] at h2
  omega
def z8_ : LC :=
 .seq (.ops [.s 2 (.mov (.const (.bool false)))]) (.seq (.ops [.m 3 0, .s 4 (.call 116 [.tmp 3, .const (.int .i64 1), .const (.int .i64 4)]), .m 2 4]) .ret)
def wJ_ : LF := ⟨1, 5, z8_, [.tmp 2]⟩
theorem AA_ : at_ Tryz.prog Tryz.f109 wJ_ := ai_
theorem j9_ (n : Int)  (h : List Row) : aa_ Tryz.prog 109 [.val (.int .i64 n)] h (.val (.bool (do_ n 1 4))) := by
 refine aj_ mixed Tryz.func109 AA_ rfl rfl ?_ h
 simp (disch := omega) only [wJ_, z8_, go_sem, reduceCtorEq, ↓reduceIte]
 repeat' (first
  | exact af_ _ _
  | simp (disch := omega) only [go_sem, ↓reduceIte]
  | (refine aa_.call (fk_ _ _ _ _) ?_)
  | (refine aa_.q (fk_ _ _ _ _) ?_)
  | ((first | (apply aF_; assumption) | (apply aE_; assumption) | (apply aN_; assumption) | (apply aO_; assumption)); intro hb; try simp only [hb])
  | ((first | apply ak_ | apply an_) <;> intro hb <;> (try simp only [hb]) <;> (first | have hp := aV_ hb | have hp := aU_ hb | have hp := aW_ hb | have hp := aX_ hb | skip)))
def Cs_ : LC :=
 .seq (.ops [.s 2 (.mov (.const (.bool false)))]) (.seq (.ops [.m 3 0, .s 4 (.call 113 [.tmp 3, .const (.int .i64 1), .const (.int .i64 4)]), .m 2 4]) .ret)
def xg_ : LF := ⟨1, 5, Cs_, [.tmp 2]⟩
theorem Ac_ : at_ Tryz.prog Tryz.f106 xg_ := ai_
theorem jk_ (n : Int)  (h : List Row) : aa_ Tryz.prog 106 [.val (.int .i64 n)] h (.val (.bool (do_ n 1 4))) := by
 refine aj_ mixed Tryz.func106 Ac_ rfl rfl ?_ h
 simp (disch := omega) only [xg_, Cs_, go_sem, reduceCtorEq, ↓reduceIte]
 repeat' (first
  | exact af_ _ _
  | simp (disch := omega) only [go_sem, ↓reduceIte]
  | (refine aa_.call (ho_ _ _ _ _) ?_)
  | (refine aa_.q (ho_ _ _ _ _) ?_)
  | ((first | (apply aF_; assumption) | (apply aE_; assumption) | (apply aN_; assumption) | (apply aO_; assumption)); intro hb; try simp only [hb])
  | ((first | apply ak_ | apply an_) <;> intro hb <;> (try simp only [hb]) <;> (first | have hp := aV_ hb | have hp := aU_ hb | have hp := aW_ hb | have hp := aX_ hb | skip)))
def c8_ (xs : List ab_) : Bool := decide ((xs.length : Int) ≤ 60) && xs.all bx_
def c91 : LC :=
 .seq (.ops [.s 1 (.box 79 (.tmp 0)), .s 2 (.mov (.const (.bool false)))]) (.seq (.ops [.ld 3 5 1, .c1 4 92 3, .nt 5 4, .m 2 5]) .ret)
def B1_ : LF := ⟨1, 6, c91, [.tmp 2]⟩
theorem Eu_ : at_ Tryz.prog Tryz.f91 B1_ := ai_
theorem hh_ (x : ab_) (hx : ab_.sz x ≤ 1048576) (h : List Row) : aa_ Tryz.prog 91 [.agg (ab_.cells x)] h (.val (.bool (!bx_ x))) := by
 refine aj_ mixed Tryz.func91 Eu_ rfl rfl ?_ h
 simp (disch := omega) only [B1_, c91, ab_.cells, go_sem, Nat.reduceEqDiff, Nat.reduceAdd, ↓reduceIte]
 repeat' (first
  | exact af_ _ _
  | simp (disch := omega) only [go_sem, ↓reduceIte]
  | (refine aa_.call (iE_ x hx _) ?_)
  | (refine aa_.q (iE_ x hx _) ?_)
  | ((first | (apply aF_; assumption) | (apply aE_; assumption) | (apply aN_; assumption) | (apply aO_; assumption)); intro hb; try simp only [hb])
  | ((first | apply ak_ | apply an_) <;> intro hb <;> (try simp only [hb]) <;> (first | have hp := aV_ hb | have hp := aU_ hb | have hp := aW_ hb | have hp := aX_ hb | skip)))
def z0_ : LC :=
 .seq (.ops [.ki 4 0]) (.seq (.seq (.ops [.m 6 0, .ll 7 6, .ki 8 0]) (.block 0 (.loop (.seq (.ops [.bb 9 .lss false 8 7]) (.seq (.cond (.tmp 9) .skip (.exit 0)) (.seq (.block 1 (.seq (.ops [.m 10 8, .m 5 10]) (.seq (.ops
 [.m 11 1, .m 12 0, .m 13 5, .ia 14 5 12 13, .ld 15 5 14, .s 16 (.callv (.tmp 11) [.tmp 15])]) (.cond (.tmp 16) (.seq (.ops [.m 17 5, .m 4 17]) .ret) .skip)))) (.ops [.bk 18 .add false 8 1, .m 8 18]))))))) (.seq (.ops [.s
 4 (.mov (.const (.int .i64 (-1))))]) .ret))
def ws_ : LF := ⟨2, 19, z0_, [.tmp 4]⟩
theorem Cz_ : at_ Tryz.prog Tryz.f139 ws_ := ai_
theorem gm_ (xs : List ab_) (p : ab_ → Bool) (g : Nat) (hx : xs.length ≤ 1048576) (hc : co_ Tryz.prog g = true) (hp : ∀ x ∈ xs, ∀ h, aa_ Tryz.prog g [.agg (ab_.cells x)] h (.val (.bool (p x)))) (h : List Row) :
 aa_ Tryz.prog 139 [.list 0 5 (xs.map ab_.cells), .fn g [] []] h (.val (.int .i64 (b2_ p xs 0))) := by
 refine aj_ mixed Tryz.func139 Cz_ rfl rfl ?_ h
 simp (disch := omega) only [ws_, z0_, go_sem, reduceCtorEq, Int.reduceNeg, ↓reduceIte]
 refine aL_ (fun n t h => ∃ k : Nat, t 0 = .list 0 5 (xs.map ab_.cells) ∧ t 1 = .fn g [] [] ∧ t 6 = .list 0 5 (xs.map ab_.cells) ∧ t 7 = .val (.int .i64 xs.length) ∧ t 8 = .val (.int .i64 k) ∧ n = xs.length - k ∧ k ≤ xs.length ∧ (b2_ p xs 0 = b2_ p (xs.drop k) k)) (xs.length) ?_ ?_
 ·exact ⟨0, rfl, rfl, rfl, rfl, rfl, rfl, Nat.zero_le _, rfl⟩
 ·rintro J hJ n t h ⟨k, t0, t1, t6, t7, k8, rfl, hk, hS⟩
  by_cases hlt : k < xs.length
  ·skip
   rw [gq_ p xs k hlt] at hS
   simp (disch := omega) only [t0, t1, t7, k8, hlt, hc, ab_.cells, go_sem, Nat.reduceEqDiff, Nat.reduceAdd, reduceCtorEq, Int.reduceNeg, ↓reduceIte]
   repeat' (first
    | exact af_ _ _
    | exact ⟨xs.length - (k + 1), by omega, hJ _ _ _ ⟨k + 1, by simp [upd, t0], by simp [upd, t1], by simp [upd, t6], by simp [upd, t7], by simp [upd], rfl, by omega, by rw [hS]; simp [*]⟩⟩
    | (refine aG_ ?_; rw [hS]; simp [*]; done)
    | (refine aG_ ?_; rw [hS, eg_ _ _ _ (by omega)])
    | simp (disch := omega) only [k8, go_sem, Nat.reduceEqDiff, Int.reduceNeg, ↓reduceIte]
    | (refine aa_.call (hp xs[k] (getElem_mem hlt) _) ?_)
    | (refine aa_.q (hp xs[k] (getElem_mem hlt) _) ?_)
    | ((first | (apply aF_; assumption) | (apply aE_; assumption) | (apply aN_; assumption) | (apply aO_; assumption)); intro hb; try simp only [hb])
    | ((first | apply ak_ | apply an_) <;> intro hb <;> (try simp only [hb]) <;> (first | have hp := aV_ hb | have hp := aU_ hb | have hp := aW_ hb | have hp := aX_ hb | skip)))
  ·skip
   simp (disch := omega) only [t7, k8, hlt, go_sem, Int.reduceNeg, ↓reduceIte]
   repeat' (first
    | exact af_ _ _
    | (refine aG_ ?_; rw [hS]; simp [*]; done)
    | (refine aG_ ?_; rw [hS, eg_ _ _ _ (by omega)])
    | simp (disch := omega) only [t0, t1, t6, t7, k8, go_sem, Nat.reduceEqDiff, Nat.reduceAdd, Nat.reduceLeDiff, reduceCtorEq, Int.reduceLT, Int.reduceLE, Int.reduceNeg, Int.reduceSub, Int.reduceAdd, Int.reduceToNat, ↓reduceIte]
    | (refine aa_.call (hp xs[k] (getElem_mem hlt) _) ?_)
    | (refine aa_.q (hp xs[k] (getElem_mem hlt) _) ?_)
    | ((first | (apply aF_; assumption) | (apply aE_; assumption) | (apply aN_; assumption) | (apply aO_; assumption)); intro hb; try simp only [hb])
    | ((first | apply ak_ | apply an_) <;> intro hb <;> (try simp only [hb]) <;> (first | have hp := aV_ hb | have hp := aU_ hb | have hp := aW_ hb | have hp := aX_ hb | skip)))
def c90 : LC :=
 .seq (.ops [.s 4 (.mov (.const (.bool false)))]) (.seq (.ops [.m 5 0, .m 6 1, .c2 7 139 5 6, .bk 8 .geq false 7 0, .m 4 8]) .ret)
def zR_ : LF := ⟨2, 9, c90, [.tmp 4]⟩
theorem D6_ : at_ Tryz.prog Tryz.f90 zR_ := ai_
theorem dw_ (xs : List ab_) (p : ab_ → Bool) (g : Nat) (hx : xs.length ≤ 1048576) (hc : co_ Tryz.prog g = true) (hp : ∀ x ∈ xs, ∀ h, aa_ Tryz.prog g [.agg (ab_.cells x)] h (.val (.bool (p x)))) (h : List Row) :
 aa_ Tryz.prog 90 [.list 0 5 (xs.map ab_.cells), .fn g [] []] h (.val (.bool (xs.any p))) := by
 refine aj_ mixed Tryz.func90 D6_ rfl rfl ?_ h
 simp (disch := omega) only [zR_, c90, go_sem, Nat.reduceEqDiff, reduceCtorEq, ↓reduceIte]
 refine aa_.call (gm_ xs p g hx hc hp _) ?_
 simp (disch := omega) only [go_sem, ↓reduceIte]
 exact ae_ (iP_ p xs)
def c48 : LC :=
 .seq (.ops [.s 2 (.mov (.const (.bool false)))]) (.seq (.ops [.m 3 0, .ll 4 3, .bk 5 .leq false 4 60, .m 6 5, .g 7 6 true (.mov (.tmp 0)), .g 8 6 true (.call 90 [.tmp 7, .func 91]), .g 9 6 true (.un .not (.tmp 8)), .pf
 10 6 9, .m 2 10]) .ret)
def CW_ : LF := ⟨1, 11, c48, [.tmp 2]⟩
theorem Ec_ : at_ Tryz.prog Tryz.f48 CW_ := ai_
theorem gl_ (xs : List ab_) (hs : ao_ ab_.sz xs ≤ 1048576) (h : List Row) : aa_ Tryz.prog 48 [.list 0 5 (xs.map ab_.cells)] h (.val (.bool (c8_ xs))) := by
 refine aj_ mixed Tryz.func48 Ec_ rfl rfl ?_ h
 simp (disch := omega) only [CW_, c48, go_sem, reduceCtorEq, ↓reduceIte]
 repeat' (first
  | exact af_ _ _
  | (refine ae_ ?_; simp only [nz_, c8_, *, Bool.true_and, Bool.false_and, decide_true, decide_false]; done)
  | simp (disch := omega) only [go_sem, Nat.reduceEqDiff, reduceCtorEq, ↓reduceIte]
  | (refine aa_.call (dw_ _ (fun s => !bx_ s) 91 (ax_ hs) (by kernel_rfl) (fun x hx h => hh_ x (by have := bD_ (f := ab_.sz) hx; omega) h) _) ?_)
  | (refine aa_.q (dw_ _ (fun s => !bx_ s) 91 (ax_ hs) (by kernel_rfl) (fun x hx h => hh_ x (by have := bD_ (f := ab_.sz) hx; omega) h) _) ?_)
  | ((first | (apply aS_; assumption) | (apply aT_; assumption) | (apply a8_; assumption) | (apply a9_; assumption)); intro hb; try simp only [hb])
  | ((first | (apply aF_; assumption) | (apply aE_; assumption) | (apply aN_; assumption) | (apply aO_; assumption)); intro hb; try simp only [hb])
  | ((first | apply az_ | apply aC_ | apply ak_ | apply an_) <;> intro hb <;> (try simp only [hb]) <;> (first | have hp := aV_ hb | have hp := aU_ hb | have hp := aW_ hb | have hp := aX_ hb | skip)))
def c42 : LC :=
 .seq (.ops [.s 2 (.mov (.const (.bool false)))]) (.seq (.seq (.ops [.m 4 0, .ll 5 4, .bk 6 .gtr false 5 60]) (.cond (.tmp 6) (.seq (.ops [.s 2 (.mov (.const (.bool false)))]) .ret) .skip)) (.seq (.seq (.ops [.ki 3 0])
 (.block 0 (.loop (.seq (.seq (.ops [.m 7 3, .m 8 0, .ll 9 8, .bb 10 .lss false 7 9]) (.cond (.tmp 10) .skip (.exit 0))) (.seq (.block 1 (.seq (.ops [.m 13 0, .m 14 3, .ia 15 5 13 14, .ld 16 5 15, .c1 17 80 16, .nt 18
 17]) (.cond (.tmp 18) (.seq (.ops [.s 2 (.mov (.const (.bool false)))]) .ret) .skip))) (.ops [.m 11 3, .bk 12 .add false 11 1, .m 3 12])))))) (.seq (.ops [.s 2 (.mov (.const (.bool true)))]) .ret)))
def u4_ : LF := ⟨1, 19, c42, [.tmp 2]⟩
theorem Eo_ : at_ Tryz.prog Tryz.f42 u4_ := ai_
theorem h0_ (xs : List ab_) (hs : ao_ ab_.sz xs ≤ 1048576) (h : List Row) : aa_ Tryz.prog 42 [.list 0 5 (xs.map ab_.cells)] h (.val (.bool (c8_ xs))) := by
 refine aj_ mixed Tryz.func42 Eo_ rfl rfl ?_ h
 have hx := ax_ hs
 have hm : ∀ x ∈ xs, ab_.sz x ≤ 1048576 := fun x hx => by have := bD_ (f := ab_.sz) hx; omega
 by_cases h4 : (xs.length : Int) ≤ 60
 ·have h4' : ((60 : Int) < xs.length) = False := eq_false (by omega)
  have hS0 : c8_ xs = xs.all bx_ := by simp [c8_, h4]
  simp (disch := omega) only [u4_, c42, h4', go_sem, reduceCtorEq, ↓reduceIte]
  refine aL_ (fun n t h => ∃ k : Nat, t 0 = .list 0 5 (xs.map ab_.cells) ∧ t 3 = .val (.int .i64 k) ∧ n = xs.length - k ∧ k ≤ xs.length ∧ (xs.all bx_ = (xs.drop k).all bx_)) (xs.length) ?_ ?_
  ·exact ⟨0, rfl, rfl, rfl, Nat.zero_le _, rfl⟩
  ·rintro J hJ n t h ⟨k, t0, k3, rfl, hk, hS⟩
   by_cases hlt : k < xs.length
   ·skip
    rw [l3_ bx_ xs k hlt] at hS
    simp (disch := omega) only [t0, k3, hlt, ab_.cells, go_sem, Nat.reduceEqDiff, Nat.reduceAdd, reduceCtorEq, ↓reduceIte]
    repeat' (first
     | exact af_ _ _
     | exact ⟨xs.length - (k + 1), by omega, hJ _ _ _ ⟨k + 1, by simp [upd, t0], by simp [upd], rfl, by omega, by rw [hS]; first | (simp only [*, Bool.true_and]; done) | simp [*]⟩⟩
     | (refine ae_ ?_; rw [hS0, hS]; first | (simp only [*, Bool.false_and]; done) | (simp [*]; done))
     | (refine ae_ ?_; rw [hS0, hS, hP_ _ _ _ (by omega)])
     | simp (disch := omega) only [k3, go_sem, Nat.reduceEqDiff, ↓reduceIte]
     | (refine aa_.call (fn_ _ (hm _ (getElem_mem hlt)) _) ?_)
     | (refine aa_.q (fn_ _ (hm _ (getElem_mem hlt)) _) ?_)
     | ((first | (apply aS_; assumption) | (apply aT_; assumption) | (apply a8_; assumption) | (apply a9_; assumption)); intro hb; try simp only [hb])
     | ((first | (apply aF_; assumption) | (apply aE_; assumption) | (apply aN_; assumption) | (apply aO_; assumption)); intro hb; try simp only [hb])
     | ((first | apply az_ | apply aC_ | apply ak_ | apply an_) <;> intro hb <;> (try simp only [hb]) <;> (first | have hp := aV_ hb | have hp := aU_ hb | have hp := aW_ hb | have hp := aX_ hb | skip)))
   ·skip
    simp (disch := omega) only [t0, k3, hlt, go_sem, Nat.reduceEqDiff, reduceCtorEq, ↓reduceIte]
    repeat' (first
     | exact af_ _ _
     | (refine ae_ ?_; rw [hS0, hS]; first | (simp only [*, Bool.and_true, Bool.true_and, Bool.and_false, Bool.false_and, Bool.or_true, Bool.true_or, Bool.or_false, Bool.false_or, Bool.not_true, Bool.not_false, decide_true, decide_false, Bool.and_self, Bool.or_self]; done) | (simp [*]; done))
     | (refine ae_ ?_; rw [hS0, hS, hP_ _ _ _ (by omega)])
     | simp (disch := omega) only [t0, k3, go_sem, Nat.reduceEqDiff, Nat.reduceAdd, Nat.reduceLeDiff, reduceCtorEq, Int.reduceLT, Int.reduceLE, Int.reduceNeg, Int.reduceSub, Int.reduceAdd, Int.reduceToNat, ↓reduceIte]
     | (refine aa_.call (fn_ _ (hm _ (getElem_mem hlt)) _) ?_)
     | (refine aa_.q (fn_ _ (hm _ (getElem_mem hlt)) _) ?_)
     | ((first | (apply aS_; assumption) | (apply aT_; assumption) | (apply a8_; assumption) | (apply a9_; assumption)); intro hb; try simp only [hb])
     | ((first | (apply aF_; assumption) | (apply aE_; assumption) | (apply aN_; assumption) | (apply aO_; assumption)); intro hb; try simp only [hb])
     | ((first | apply az_ | apply aC_ | apply ak_ | apply an_) <;> intro hb <;> (try simp only [hb]) <;> (first | have hp := aV_ hb | have hp := aU_ hb | have hp := aW_ hb | have hp := aX_ hb | skip)))
 ·have h4' : ((60 : Int) < xs.length) = True := eq_true (by omega)
  simp (disch := omega) only [u4_, c42, h4', go_sem, reduceCtorEq, ↓reduceIte]
  exact ae_ (by simp [c8_, h4])
def cN_ (x : ah_) : Bool := do_ x.Job 1 4 && c8_ x.Events
def zP_ : LC :=
 .seq (.ops [.s 1 (.box 92 (.tmp 0)), .s 2 (.mov (.const (.bool false)))]) (.seq (.ops [.fa 3 0 1, .ln 4 3, .c1 5 109 4, .m 6 5, .g 7 6 true (.fieldAddr 1 (.tmp 1)), .g 8 6 true (.load none (.tmp 7)), .g 9 6 true (.call
 48 [.tmp 8]), .pf 10 6 9, .m 2 10]) .ret)
def xF_ : LF := ⟨1, 11, zP_, [.tmp 2]⟩
theorem z7_ : at_ Tryz.prog Tryz.f105 xF_ := ai_
theorem iw_ (x : ah_) (hx : ah_.sz x ≤ 1048576) (h : List Row) : aa_ Tryz.prog 105 [.agg (ah_.cells x)] h (.val (.bool (cN_ x))) := by
 refine aj_ mixed Tryz.func105 z7_ rfl rfl ?_ h
 simp (disch := omega) only [xF_, zP_, ah_.cells, go_sem, Nat.reduceEqDiff, Nat.reduceAdd, ↓reduceIte]
 repeat' (first
  | exact af_ _ _
  | (refine ae_ ?_; first | rfl | (simp only [cN_, *, Bool.true_and, Bool.false_and]; done) | (simp [cN_, *]; done))
  | simp (disch := omega) only [go_sem, Nat.reduceEqDiff, ↓reduceIte]
  | (refine aa_.call (j9_ _ _) ?_)
  | (refine aa_.q (j9_ _ _) ?_)
  | (refine aa_.call (gl_ _ (ah_.sz_Events hx) _) ?_)
  | (refine aa_.q (gl_ _ (ah_.sz_Events hx) _) ?_)
  | ((first | (apply aS_; assumption) | (apply aT_; assumption) | (apply a8_; assumption) | (apply a9_; assumption)); intro hb; try simp only [hb])
  | ((first | (apply aF_; assumption) | (apply aE_; assumption) | (apply aN_; assumption) | (apply aO_; assumption)); intro hb; try simp only [hb])
  | ((first | apply az_ | apply aC_ | apply ak_ | apply an_) <;> intro hb <;> (try simp only [hb]) <;> (first | have hp := aV_ hb | have hp := aU_ hb | have hp := aW_ hb | have hp := aX_ hb | skip)))
def B4_ : LC :=
 .seq (.ops [.s 1 (.box 92 (.tmp 0)), .s 2 (.mov (.const (.bool false)))]) (.seq (.ops [.fa 3 0 1, .ln 4 3, .c1 5 106 4, .m 6 5, .g 7 6 true (.fieldAddr 1 (.tmp 1)), .g 8 6 true (.load none (.tmp 7)), .g 9 6 true (.call
 42 [.tmp 8]), .pf 10 6 9, .m 2 10]) .ret)
def wg_ : LF := ⟨1, 11, B4_, [.tmp 2]⟩
theorem zb_ : at_ Tryz.prog Tryz.f102 wg_ := ai_
theorem eV_ (x : ah_) (hx : ah_.sz x ≤ 1048576) (h : List Row) : aa_ Tryz.prog 102 [.agg (ah_.cells x)] h (.val (.bool (cN_ x))) := by
 refine aj_ mixed Tryz.func102 zb_ rfl rfl ?_ h
 simp (disch := omega) only [wg_, B4_, ah_.cells, go_sem, Nat.reduceEqDiff, Nat.reduceAdd, ↓reduceIte]
 repeat' (first
  | exact af_ _ _
  | (refine ae_ ?_; first | rfl | (simp only [cN_, *, Bool.true_and, Bool.false_and]; done) | (simp [cN_, *]; done))
  | simp (disch := omega) only [go_sem, Nat.reduceEqDiff, ↓reduceIte]
  | (refine aa_.call (jk_ _ _) ?_)
  | (refine aa_.q (jk_ _ _) ?_)
  | (refine aa_.call (h0_ _ (ah_.sz_Events hx) _) ?_)
  | (refine aa_.q (h0_ _ (ah_.sz_Events hx) _) ?_)
  | ((first | (apply aS_; assumption) | (apply aT_; assumption) | (apply a8_; assumption) | (apply a9_; assumption)); intro hb; try simp only [hb])
  | ((first | (apply aF_; assumption) | (apply aE_; assumption) | (apply aN_; assumption) | (apply aO_; assumption)); intro hb; try simp only [hb])
  | ((first | apply az_ | apply aC_ | apply ak_ | apply an_) <;> intro hb <;> (try simp only [hb]) <;> (first | have hp := aV_ hb | have hp := aU_ hb | have hp := aW_ hb | have hp := aX_ hb | skip)))
theorem qk_ {a b : ac_} (h : ¬ (a.Name = b.Name ∧ a.Subs = b.Subs)) : b5_ a b = true ∨ b5_ b a = true := by
 refine qB_ (fun q => h ⟨?_, ?_⟩)
 ·have := q.1; rwa [mM_] at this
 ·exact (rl_ _ _).1 q.2
theorem ok_ : ∀ (r : List ac_) (p : Option ac_), r.Pairwise (fun a b => b5_ a b = true) → (∀ q, p = some q → ∀ x ∈ r, b5_ q x = true) → (∀ x ∈ r, cA_ x = true) → dI_ p r = true
 | [], p, _, _, _ => by simp [dI_]
 | a :: r, p, h1, h2, h3 => by
  obtain ⟨h4, h5⟩ := pairwise_cons.1 h1
  simp only [dI_, Bool.and_eq_true]
  refine ⟨⟨h3 a (by simp), ?_⟩, ok_ r (some a) h5 (by rintro q e x hx; cases e; exact h4 x hx) (fun x hx => h3 x (by simp [hx]))⟩
  cases p with
  | none => rfl
  | some q => exact h2 q rfl a (by simp)
theorem kK_ {ns : List ac_} (h0 : ns.length ≤ 120) (h1 : ns.Pairwise (fun a b => b5_ a b = true)) (h2 : ∀ x ∈ ns, cA_ x = true) : aH_ ⟨ns⟩ = true := by
 simp only [aH_, Bool.and_eq_true, decide_eq_true_eq]
 exact ⟨by omega, ok_ ns none h1 (by simp) h2⟩
theorem hF_ {x : ad_} (h : aH_ x = true) : x.Nodes.length ≤ 120 := (gp_ h).1
theorem j0_ {ns : List ac_} {n : ByteArray} {s : List ByteArray} (h : bu_ ns n s = true) : ∃ hp : bk_ ns n s < ns.length, ns[bk_ ns n s].Name = n ∧ ns[bk_ ns n s].Subs = s := by
 unfold bu_ at h
 split at h
 ·rename_i a e
  obtain ⟨hp, e'⟩ := List.getElem?_eq_some_iff.1 e
  refine ⟨hp, ?_⟩
  rw [e']
  simp only [fu_, Bool.and_eq_true, decide_eq_true_eq] at h
  exact ⟨h.1, (jz_ _ _).1 h.2⟩
 ·cases h
theorem tA_ {ns : List ac_} {n : ByteArray} {s : List ByteArray} (h : bu_ ns n s = false) (hp : bk_ ns n s < ns.length) : ¬ (ns[bk_ ns n s].Name = n ∧ ns[bk_ ns n s].Subs = s) := by
 unfold bu_ at h
 rw [getElem?_eq_getElem hp] at h
 simp only at h
 intro q
 rw [fu_, (jz_ _ _).2 q.2, decide_eq_true q.1] at h
 cases h
def dJ_ (ns : List ac_) (n : ByteArray) (s : List ByteArray) (v : ByteArray) : List ac_ := ns.take (bk_ ns n s) ++ ⟨n, s, v⟩ :: ns.drop (bk_ ns n s + (if bu_ ns n s = true then 1 else 0))
theorem o8_ {ns : List ac_} {n : ByteArray} {s : List ByteArray} {v : ByteArray} (h : bu_ ns n s = true) : dJ_ ns n s v = ns.set (bk_ ns n s) ⟨n, s, v⟩ := by
 obtain ⟨hp, _⟩ := j0_ h
 rw [dJ_, if_pos h, set_eq_take_append_cons_drop, if_pos hp]
theorem l1_ {ns : List ac_} {n : ByteArray} {s : List ByteArray} {v : ByteArray} (h : bu_ ns n s = false) : dJ_ ns n s v = ns.take (bk_ ns n s) ++ ⟨n, s, v⟩ :: ns.drop (bk_ ns n s) := by
 rw [dJ_, if_neg (by rw [h]; simp), Nat.add_zero]
theorem vR_ {ns : List ac_} {n : ByteArray} {s : List ByteArray} {v : ByteArray} : (dJ_ ns n s v).length = if bu_ ns n s = true then ns.length else ns.length + 1 := by
 have := lg_ ns n s
 by_cases h : bu_ ns n s = true
 ·rw [o8_ h, if_pos h, ls_]
 ·have h' : bu_ ns n s = false := by simpa using h
  rw [l1_ h', if_neg h, la_, length_take, lc_, length_drop]; omega
theorem rj_ {x : ad_} (h : aH_ x = true) {n : ByteArray} {s : List ByteArray} {v : ByteArray} (ht : cR_ n s = true) (hv : v.size ≤ 64) (hl : bu_ x.Nodes n s = true ∨ x.Nodes.length < 120) : aH_ ⟨dJ_ x.Nodes n s v⟩ = true := by
 have hlen := hF_ h
 have hsort := pairwise_iff_getElem.1 (fC_ h)
 have hnode := mT_ h
 have hahead : ∀ a ∈ x.Nodes.take (bk_ x.Nodes n s), b5_ a ⟨n, s, v⟩ = true := by
  intro a ha
  obtain ⟨i, hi, rfl⟩ := mem_iff_getElem.1 ha
  rw [length_take] at hi
  rw [getElem_take]
  exact (kU_ h n s i (by omega)).2 (by omega)
 have hbehind : ∀ b ∈ x.Nodes.drop (bk_ x.Nodes n s + (if bu_ x.Nodes n s = true then 1 else 0)), b5_ ⟨n, s, v⟩ b = true := by
  intro b hb
  obtain ⟨i, hi, rfl⟩ := mem_iff_getElem.1 hb
  rw [length_drop] at hi
  rw [getElem_drop]
  by_cases hf : bu_ x.Nodes n s = true
  ·simp only [hf, if_true] at hi ⊢
   obtain ⟨hp, e1, e2⟩ := j0_ hf
   have := hsort (bk_ x.Nodes n s) (bk_ x.Nodes n s + 1 + i) hp (by omega) (by omega)
   unfold b5_ at this ⊢
   rw [e1, e2] at this
   exact this
  ·have hf' : bu_ x.Nodes n s = false := by simpa using hf
   simp only [hf', Bool.false_eq_true, if_false, Nat.add_zero] at hi ⊢
   have hp : bk_ x.Nodes n s < x.Nodes.length := by omega
   have h0 : b5_ ⟨n, s, v⟩ x.Nodes[bk_ x.Nodes n s] = true := by
    rcases qk_ (a := ⟨n, s, v⟩) (b := x.Nodes[bk_ x.Nodes n s]) (fun q => tA_ hf' hp ⟨q.1.symm, q.2.symm⟩) with q | q
    ·exact q
    ·have := (kU_ h n s _ hp).1 q; omega
   by_cases q : i = 0
   ·subst q; exact h0
   ·exact gk_ h0 (hsort _ _ hp (by omega) (by omega))
 refine kK_ ?_ ?_ ?_
 ·rw [vR_]; split
  ·exact hlen
  ·rename_i q
   rcases hl with hl | hl
   ·exact absurd hl q
   ·omega
 ·unfold dJ_
  refine pairwise_append.2 ⟨(fC_ h).sublist (take_sublist _ _), pairwise_cons.2 ⟨hbehind, (fC_ h).sublist (drop_sublist _ _)⟩, ?_⟩
  intro a ha b hb
  rcases mem_cons.1 hb with e | e
  ·subst e; exact hahead a ha
  ·exact gk_ (hahead a ha) (hbehind b e)
 ·intro a ha
  unfold dJ_ at ha
  rcases mem_append.1 ha with e | e
  ·exact hnode a (mem_of_mem_take e)
  ·rcases mem_cons.1 e with e | e
   ·subst e
    simp only [cA_, Bool.and_eq_true, decide_eq_true_eq]
    exact ⟨ht, by omega⟩
   ·exact hnode a (mem_of_mem_drop e)
theorem uw_ {x : ad_} (h : aH_ x = true) (n : ByteArray) (s : List ByteArray) : aH_ ⟨cT_ x.Nodes n s⟩ = true := by
 refine kK_ (Nat.le_trans (length_filter_le _ _) (hF_ h)) ((fC_ h).sublist filter_sublist) (fun a ha => mT_ h a (mem_filter.1 ha).1)
theorem uk_ {α : Type} (f : α → Nat) (b : Nat) : ∀ xs : List α, (∀ x ∈ xs, f x ≤ b) → bZ_ f xs ≤ b * xs.length
 | [], _ => by simp [bZ_]
 | x :: xs, h => by
  have := uk_ f b xs fun y hy => h y (by simp [hy])
  have := h x (by simp)
  simp only [bZ_, lc_, Nat.mul_add]; omega
theorem tp_ {a : ac_} (h : cA_ a = true) : ac_.sz a ≤ 172 := by
 obtain ⟨h1, h2, h3⟩ := h9_ h
 have := iM_ h1
 have := lI_ h2
 unfold ac_.sz; omega
theorem tu_ {x : ad_} (h : aH_ x = true) : ad_.sz x ≤ 20760 := by
 obtain ⟨h1, h2⟩ := gp_ h
 have := uk_ ac_.sz 172 x.Nodes fun a ha => tp_ (h2 a ha)
 unfold ad_.sz
 simp only [ao_]; omega
theorem dd_ {x : ad_} (h : aH_ x = true) : ad_.sz x ≤ 1048576 := Nat.le_trans (tu_ h) (by decide)
theorem f9_ : aH_ ⟨[]⟩ = true := kK_ (by simp) List.Pairwise.nil (by simp)
def cZ_ (c : a5_) : Bool := cR_ c.Name c.Subs && (decide (c.Kind = 1) && decide ((c.Value.size : Int) ≤ 64) || decide (c.Kind = 2) && decide (c.Value = txt []))
def b0_ (x : ad_) (c : a5_) : ad_ × Int :=
 if c.Kind = 1 then (if bu_ x.Nodes c.Name c.Subs = true ∨ x.Nodes.length < 120 then (⟨dJ_ x.Nodes c.Name c.Subs c.Value⟩, 0) else (⟨[]⟩, 4)) else (⟨cT_ x.Nodes c.Name c.Subs⟩, 0)
theorem sE_ {x : ad_} (h : aH_ x = true) {c : a5_} (hc : cZ_ c = true) : aH_ (b0_ x c).1 = true := by
 simp only [cZ_, Bool.and_eq_true, Bool.or_eq_true, decide_eq_true_eq] at hc
 unfold b0_
 split
 ·rename_i k
  split
  ·rename_i q
   refine rj_ h hc.1 ?_ q
   rcases hc.2 with ⟨_, q2⟩ | ⟨q2, _⟩
   ·omega
   ·omega
  ·exact f9_
 ·exact uw_ h _ _
def ds_ (x : ad_) (n : ByteArray) (s : List ByteArray) : Int := if bu_ x.Nodes n s = true ∨ x.Nodes.length < 120 then 0 else 4
theorem uF_ {H : List Row} {n : Nat} {p q u v b : AV} {r : AV} {f : List Nat} {w : Value} (h : aK_ (Own H n) [p, b, .val w] [p, r, .val w] f) (v : Value) : aK_ (Own H n) [p, b, .val v] [p, r, .val v] f := by
 obtain ⟨d, ds, f1, f2, e1, rfl, h1, h2⟩ := h
 simp only [List.cons.injEq] at e1
 obtain ⟨rfl, rfl⟩ := e1
 obtain ⟨d, ds, f3, f4, e1, rfl, h3, h4⟩ := h2
 simp only [List.cons.injEq] at e1
 obtain ⟨rfl, rfl⟩ := e1
 obtain ⟨d, ds, f5, f6, e1, rfl, h5, h6⟩ := h4
 simp only [List.cons.injEq] at e1
 obtain ⟨rfl, rfl⟩ := e1
 obtain ⟨_, rfl⟩ := h6
 cases n with
 | zero => exact h5.elim
 | succ n =>
  obtain ⟨rfl, _⟩ := h5
  exact ⟨_, _, f1, _, rfl, rfl, h1, _, _, f3, _, rfl, rfl, h3, _, _, [], [], rfl, rfl, ⟨rfl, .inl rfl⟩, rfl, rfl⟩
theorem vO_ {l k : Nat} {ts : List Tr} {t' : Tr} (hk : k < ts.length) (hf : t'.f = ts[k].f) : ∀ y ∈ cq_ l (ts.set k t'), y ∈ cq_ l ts := by
 have hmap : (ts.set k t').map Tr.f = ts.map Tr.f := by
  rw [map_set, hf]
  apply ext_getElem?
  intro i
  rw [getElem?_set]
  split
  ·rename_i e
   subst e
   rw [if_pos (by simpa using hk), getElem?_map, getElem?_eq_getElem hk]; rfl
  ·rfl
 intro y hy
 unfold cq_ at hy ⊢
 rwa [hmap] at hy
def Ci_ : LC :=
 .seq (.ops [.ki 8 0]) (.seq (.ops [.m 12 0, .nc 13 12, .ld 14 1 13, .m 15 1, .m 16 2, .c3 17 183 14 15 16, .m 11 17, .ex 18 11 0, .ex 19 11 1, .m 9 18, .m 10 19]) (.seq (.block 0 (.seq (.ops [.m 36 10, .m 35 36]) (.cond
 (.tmp 35) (.ops [.m 37 0, .nc 38 37, .fa 39 0 38, .ln 40 39, .m 41 9, .m 42 3, .ia 43 3 40 41, .fa 44 2 43, .st 1 44 42]) (.seq (.ops [.m 46 0, .nc 47 46, .fa 48 0 47, .ln 49 48, .ll 50 49, .bk 51 .eql false 50 120, .m
 45 51]) (.cond (.tmp 45) (.seq (.ops [.ki 8 4]) .ret) (.gops [.m 20 0, .m 21 0, .nc 22 21, .fa 23 0 22, .ln 24 23, .m 25 9, .m 26 1, .m 27 2, .m 29 3] [(.c1 28 144 27, [.m 20 0, .m 21 0, .nc 22 21, .fa 23 0 22, .ln 24
 23, .m 25 9, .m 26 1, .m 29 3]), (.s 30 (.build (.agg #[.string ⟨#[]⟩, .slice none 0 0, .string ⟨#[]⟩]) [(0, 1), (1, 1), (2, 1)] [(0, .tmp 26), (1, .tmp 28), (2, .tmp 29)]), [.m 20 0, .m 21 0, .nc 22 21, .fa 23 0 22, .ln
 24 23, .m 25 9]), (.s 31 (.buildSlice 112 3 (.agg #[.string ⟨#[]⟩, .slice none 0 0, .string ⟨#[]⟩]) 1 [(0, .tmp 30)]), [.m 20 0, .m 21 0, .nc 22 21, .fa 23 0 22, .ln 24 23, .m 25 9]), (.c3 32 184 24 25 31, [.m 20 0]),
 (.nc 33 20, []), (.fa 34 0 33, []), (.st 1 34 32, [])])))))) (.seq (.ops [.ki 8 0]) .ret)))
def xb_ : LF := ⟨4, 52, Ci_, [.tmp 8]⟩
theorem Ca_ : at_ Tryz.prog Tryz.f145 xb_ := ai_
theorem lu_ {L lo : Nat} {H0 H : List Row} {x : ad_} {sa : AV} (B : ec_ L lo H0 x) (mH : aJ_ H0 H) (n : ByteArray) (s : List ByteArray) (v : ByteArray) (hx : aH_ x = true) (hs : ao_ ByteArray.size s ≤ 1048576) (hsa : ∀ H' : List Row, (∀ y, H0.length ≤ y → y < H.length → H'[y]? = H[y]?) → cg_ H' sa (.list 0 1 (s.map am_))) {K : AV → List Row → Prop}
 (hk : ∀ H' : List Row, H.length ≤ H'.length → (∀ y, y < lo → H'[y]? = H[y]?) → (ds_ x n s = 0 → ec_ L lo H' ⟨dJ_ x.Nodes n s v⟩) → K (.val (.int .i64 (ds_ x n s))) H') :
 callSem Tryz.prog 145 [.ptr L 1 0 0, .val (.string n), sa, .val (.string v)] H K := by
 refine bd_ mixed Tryz.func145 Ca_ (cb_ rfl ?_)
 have hlow := B.low
 have hlo0 := hlow.1
 have B1 := B.more mH
 obtain ⟨a, o, ca, hF⟩ := B1.arg
 obtain ⟨l, m, ts, b0, d⟩ := B
 have lows0 := b0.at'.lows
 have b := b0.more mH
 obtain ⟨a', o', hS⟩ := b.box
 obtain rfl : a = a' := by rw [o] at o'; simpa using o'
 have hL := (List.getElem?_eq_some_iff.1 o).1
 have hr := b.at'.row
 have hml := yF_ b.at'.le d
 have hxl := hF_ hx
 have hle := b.at'.le
 have hll := b.at'.lt
 have hlo := b.at'.lows l mem_cons_self
 have hLl : L ≠ l := fun q => b.out (by rw [q]; exact mem_cons_self)
 have mlen := mH.len
 have hpl : aa_ Tryz.prog 183 [.agg [a], .val (.string n), sa] H (.tup [.val (.int .i64 (bk_ x.Nodes n s)), .val (.bool (bu_ x.Nodes n s))]) := aa_.anyR rfl (fun h => hd_ x n s (dd_ hx) hs hx h) (a3_.cons hF.arg.any (a3_.cons (bL_.same rfl) (a3_.cons (hsa H fun _ _ _ => rfl).any a3_.nil)))
 simp (disch := (first | omega | (simp only [ls_, la_, lc_, ln_]; first | done | omega))) only [go_sem, Nat.reduceEqDiff, reduceCtorEq, ↓reduceIte, xb_, Ci_, o]
 refine aa_.call hpl ?_
 cases hf : bu_ x.Nodes n s
 case true =>
  obtain ⟨hp, e1, e2⟩ := j0_ hf
  have hpm : bk_ x.Nodes n s < m := by omega
  have hpt : bk_ x.Nodes n s < ts.length := by omega
  obtain ⟨c, g1, g2, g3⟩ := yh_ b.at' d hpm hpt hp
  have hC : ds_ x n s = 0 := by rw [ds_, if_pos (.inl hf)]
  rw [hC] at hk
  have fin : K (.val (.int .i64 0)) (H.set l ⟨.ty 112, 3, (ts.map Tr.c).set (bk_ x.Nodes n s) [.val (.string x.Nodes[bk_ x.Nodes n s].Name), c, .val (.string v)]⟩) := by
   refine hk _ (by simp) (fun y q1 => ar_ (by omega)) (fun _ => ?_)
   have hset : (ts.map Tr.c).set (bk_ x.Nodes n s) [.val (.string x.Nodes[bk_ x.Nodes n s].Name), c, .val (.string v)] = (ts.set (bk_ x.Nodes n s) ⟨[.val (.string x.Nodes[bk_ x.Nodes n s].Name), c, .val (.string v)], [.val (.string x.Nodes[bk_ x.Nodes n s].Name), .list 0 1 (x.Nodes[bk_ x.Nodes n s].Subs.map am_), .val (.string v)], ts[bk_ x.Nodes n s].f⟩).map Tr.c := by
    rw [map_set]
   rw [hset]
   refine ⟨l, m, _, ⟨⟨a, (ar_ (Ne.symm hLl)).trans o, ?_⟩, b.at'.put hpt rfl ⟨rfl, ?_⟩ (fun k hk' => ?_), fun q => b.out (vO_ (t' := ⟨[.val (.string x.Nodes[bk_ x.Nodes n s].Name), c, .val (.string v)], [.val (.string x.Nodes[bk_ x.Nodes n s].Name), .list 0 1 (x.Nodes[bk_ x.Nodes n s].Subs.map am_), .val (.string v)], ts[bk_ x.Nodes n s].f⟩) hpt rfl L q), b.lt⟩, ?_⟩
   ·rcases hS with rfl | ⟨rfl, q⟩
    ·exact .inl (by rw [ls_])
    ·exact .inr ⟨by rw [ls_], by rw [ls_]; exact q⟩
   ·simp only [all_cons, all_nil, g3, Bool.true_and, Bool.and_true]; rfl
   ·rw [g1, g2] at hk'
    exact uF_ (u := .undef) (v := .undef) (q := .undef) hk' _
   ·rw [o8_ hf, take_set, map_set, d, map_set, e1, e2]; rfl
  have hget : (ts.map Tr.c)[bk_ x.Nodes n s]? = some [.val (.string x.Nodes[bk_ x.Nodes n s].Name), c, .val (.string x.Nodes[bk_ x.Nodes n s].Value)] := by
   rw [getElem?_map, getElem?_eq_getElem hpt, Option.map_some, g1]
  rcases hS with rfl | ⟨rfl, rfl⟩
  ·simp (disch := (first | omega | (simp only [ls_, la_, lc_, ln_]; first | done | omega))) only [go_sem, Nat.reduceEqDiff, Nat.reduceAdd, reduceCtorEq, ↓reduceIte, o, hr, hget, hpm, length_map, Int.zero_add, Nat.zero_add]
   exact fin
  ·simp (disch := (first | omega | (simp only [ls_, la_, lc_, ln_]; first | done | omega))) only [go_sem, Nat.reduceEqDiff, Nat.reduceAdd, reduceCtorEq, ↓reduceIte, o, hr, hget, hpm, length_map, Nat.zero_add]
   exact fin
 by_cases h120 : x.Nodes.length = 120
 ·have hC : ds_ x n s = 4 := by rw [ds_, if_neg (by rw [hf, h120]; simp)]
  rw [hC] at hk
  have h120' : m = 120 := by omega
  have fin : K (.val (.int .i64 4)) H := hk _ (Nat.le_refl _) (fun _ _ => rfl) (fun q => by cases q)
  have t120 : ((m : Int) = 120) = True := eq_true (by omega)
  rcases hS with rfl | ⟨rfl, q⟩
  ·simp (disch := (first | omega | (simp only [ls_, la_, lc_, ln_]; first | done | omega))) only [go_sem, Nat.reduceEqDiff, reduceCtorEq, ↓reduceIte, o, hr, t120, length_map, Nat.sub_zero]
   exact fin
  ·have t120' : ((ts.length : Int) = 120) = True := eq_true (by omega)
   simp (disch := (first | omega | (simp only [ls_, la_, lc_, ln_]; first | done | omega))) only [go_sem, Nat.reduceEqDiff, reduceCtorEq, ↓reduceIte, o, hr, t120', length_map]
   exact fin
 have hC : ds_ x n s = 0 := by rw [ds_, if_pos (.inr (by omega))]
 rw [hC] at hk
 have h120' : ((m : Int) = 120) = False := eq_false (by omega)
 have hpm : bk_ x.Nodes n s ≤ m := by have := lg_ x.Nodes n s; omega
 have clone : ∀ K' : AV → List Row → Prop, (∀ (H1 : List Row) (cl : Nat), aJ_ H H1 → FB H.length H1.length H1 (.own cl s.length) (.list 0 1 (s.map am_)) → K' (.own cl s.length) H1) → callSem Tryz.prog 144 [sa] H K' := fun K' hK' => by
  refine d0_ (b1_ s (ax_ hs)) (a3_.cons (hsa H fun _ _ _ => rfl).any a3_.nil) (fun av H1 m1 F1 q1 => ?_)
  obtain ⟨cl, rfl⟩ := q1
  exact hK' H1 cl m1 F1
 have ins : ∀ (H1 : List Row) (cl : Nat), aJ_ H H1 → FB H.length H1.length H1 (.own cl s.length) (.list 0 1 (s.map am_)) → ∀ K' : AV → List Row → Prop, (∀ (av : AV) (H2 : List Row), ((∃ a b c, av = .sub a b 0 c) ∨ ∃ a b, av = .own a b) → H1.length ≤ H2.length → H2[L]? = some ⟨.ty 30, 1, [[a]]⟩ → K (.val (.int .i64 0)) (H2.set L ⟨.ty 30, 1, [[av]]⟩) → K' av H2) →
  callSem Tryz.prog 184 [.sub l ts.length 0 m, .val (.int .i64 (bk_ x.Nodes n s)), .own H1.length 1] (H1 ++ [⟨.ty 112, 3, [[.val (.string n), .own cl s.length, .val (.string v)]]⟩]) K' := by
  intro H1 cl m1 F1 K' hK'
  have l1 := m1.len
  have s1 := (b.at'.more m1).more (aJ_.app H1 [⟨.ty 112, 3, [[.val (.string n), .own cl s.length, .val (.string v)]]⟩])
  have hN : ap_ H.length H1.length (H1 ++ [⟨.ty 112, 3, [[.val (.string n), .own cl s.length, .val (.string v)]]⟩]) [.val (.string n), .own cl s.length, .val (.string v)] (ac_.cells ⟨n, s, v⟩) :=
   ap_.val _ (ap_.cons (F1.tree.keep fun y _ q => aw_ q) (ap_.val _ (ap_.nil _ _ _)) ⟨l1, Nat.le_refl _⟩)
  refine ht_ s1 hpm (by omega) (aQ_ rfl) hN ⟨rfl, fun r hr => ?_⟩ (fun y hy => (b.at'.lows y hy).2) (by omega) l1 (Nat.le_refl _) (fun av H2 l' ts' k1 k2 k3 k4 k5 k6 => ?_)
  ·simp only [ac_.cells, mem_cons, not_mem_nil, or_false] at hr
   rcases hr with rfl | rfl | rfl <;> rfl
  ·have hll' := (k3.lows l' mem_cons_self).1
   have k1' : H1.length + 1 ≤ H2.length := by simpa using k1
   have hL2 : H2[L]? = some ⟨.ty 30, 1, [[a]]⟩ := by
    rw [k2 L (by simp; omega) (by omega), aw_ (by omega), m1.kept L hL]; exact o
   refine hK' av H2 (by rcases k4 with q | ⟨q, _⟩; exact .inl ⟨_, _, _, q⟩; exact .inr ⟨_, _, q⟩) (by omega) hL2 (hk _ (by rw [ls_]; omega) (fun y q1 => ?_) (fun _ => ?_))
   ·rw [ar_ (by omega), k2 y (by simp; omega) (by omega), aw_ (by omega), m1.kept y (by omega)]
   ·have hLf : ∀ y ∈ cq_ l' ts', L ≠ y := fun y hy q => by
     rcases k6 y hy with q2 | q2
     ·exact b.out (by rw [q]; exact q2)
     ·omega
    refine ⟨l', m + 1, ts', ⟨⟨av, aD_ (by omega), k4⟩, k3.keep (fun y hy => ar_ (hLf y hy)) (by simp), fun q => hLf L q rfl, b.lt⟩, ?_⟩
    ·rw [k5, d, l1_ hf, map_append, map_cons, map_take, map_drop]
 rcases hS with rfl | ⟨rfl, q⟩
 ·simp (disch := (first | omega | (simp only [ls_, la_, lc_, ln_]; first | done | omega))) only [go_sem, Nat.reduceEqDiff, reduceCtorEq, ↓reduceIte, o, hr, h120', length_map, Nat.sub_zero]
  refine clone _ (fun H1 cl m1 F1 => ?_)
  have o1 := m1.at o
  have l1 := m1.len
  simp (disch := (first | omega | (simp only [ls_, la_, lc_, ln_]; first | done | omega))) only [aw_, go_sem, Nat.reduceEqDiff, Nat.reduceAdd, Nat.reduceLeDiff, reduceCtorEq, ↓reduceIte, o1, bH_, Option.map_some]
  refine ins H1 cl m1 F1 _ (fun av H2 cav k1 o2 hfin => ?_)
  rcases cav with ⟨a1, a2, a3, rfl⟩ | ⟨a1, a2, rfl⟩
  all_goals
   simp (disch := (first | omega | (simp only [ls_, la_, lc_, ln_]; first | done | omega))) only [go_sem, Nat.reduceEqDiff, reduceCtorEq, ↓reduceIte, o2]
   exact hfin
 ·have h120'' : ((ts.length : Int) = 120) = False := eq_false (by omega)
  simp (disch := (first | omega | (simp only [ls_, la_, lc_, ln_]; first | done | omega))) only [go_sem, Nat.reduceEqDiff, reduceCtorEq, ↓reduceIte, o, hr, h120'', length_map]
  refine clone _ (fun H1 cl m1 F1 => ?_)
  have o1 := m1.at o
  have l1 := m1.len
  simp (disch := (first | omega | (simp only [ls_, la_, lc_, ln_]; first | done | omega))) only [aw_, go_sem, Nat.reduceEqDiff, Nat.reduceAdd, Nat.reduceLeDiff, reduceCtorEq, ↓reduceIte, o1, bH_, Option.map_some]
  refine callSem.own_sub ?_
  have := ins H1 cl m1 F1
  rw [q] at this
  refine this _ (fun av H2 cav k1 o2 hfin => ?_)
  rcases cav with ⟨a1, a2, a3, rfl⟩ | ⟨a1, a2, rfl⟩
  all_goals
   simp (disch := (first | omega | (simp only [ls_, la_, lc_, ln_]; first | done | omega))) only [go_sem, Nat.reduceEqDiff, reduceCtorEq, ↓reduceIte, o2]
   exact hfin
def c97 : LC :=
 .seq (.ops [.s 2 (.box 79 (.tmp 0)), .s 3 (.box 79 (.tmp 1)), .s 4 (.mov (.const (.bool false)))]) (.seq (.ops [.fa 5 0 2, .ln 6 5, .fa 7 0 3, .ln 8 7, .bb 9 .eql false 6 8, .m 10 9, .g 11 10 true (.fieldAddr 1 (.tmp
 2)), .g 12 10 true (.load none (.tmp 11)), .g 13 10 true (.fieldAddr 1 (.tmp 3)), .g 14 10 true (.load none (.tmp 13)), .g 15 10 true (.bin .eql false (.tmp 12) (.tmp 14)), .pf 16 10 15, .m 17 16, .g 18 17 true
 (.fieldAddr 2 (.tmp 2)), .g 19 17 true (.load none (.tmp 18)), .g 20 17 true (.fieldAddr 2 (.tmp 3)), .g 21 17 true (.load none (.tmp 20)), .g 22 17 true (.call 147 [.tmp 19, .tmp 21]), .pf 23 17 22, .m 24 23, .g 25 24
 true (.fieldAddr 3 (.tmp 2)), .g 26 24 true (.load none (.tmp 25)), .g 27 24 true (.fieldAddr 3 (.tmp 3)), .g 28 24 true (.load none (.tmp 27)), .g 29 24 true (.bin .eql false (.tmp 26) (.tmp 28)), .pf 30 24 29, .m 31
 30, .g 32 31 true (.fieldAddr 4 (.tmp 2)), .g 33 31 true (.load none (.tmp 32)), .g 34 31 true (.fieldAddr 4 (.tmp 3)), .g 35 31 true (.load none (.tmp 34)), .g 36 31 true (.bin .eql false (.tmp 33) (.tmp 35)), .pf 37 31
 36, .m 4 37]) .ret)
def AU_ : LF := ⟨2, 38, c97, [.tmp 4]⟩
theorem Ew_ : at_ Tryz.prog Tryz.f97 AU_ := ai_
def up_ : LC :=
 .seq (.ops [.s 4 (.mov (.const (.bool false)))]) (.seq (.ops [.m 5 0, .ll 6 5, .m 7 1, .ll 8 7, .bb 9 .eql false 6 8, .m 10 9, .g 11 10 true (.mov (.tmp 0)), .g 12 10 true (.mov (.tmp 1)), .g 13 10 true (.call 164 [.tmp
 11, .tmp 12]), .pf 14 10 13, .m 4 14]) .ret)
def sR_ : LF := ⟨2, 15, up_, [.tmp 4]⟩
theorem y6_ : at_ Tryz.prog Tryz.f126 sR_ := ai_
def c82 : LC :=
 .seq (.ops [.s 2 (.box 79 (.tmp 0)), .s 3 (.box 79 (.tmp 1)), .s 4 (.mov (.const (.bool false)))]) (.seq (.ops [.fa 5 0 2, .ln 6 5, .fa 7 0 3, .ln 8 7, .bb 9 .eql false 6 8, .m 10 9, .g 11 10 true (.fieldAddr 1 (.tmp
 2)), .g 12 10 true (.load none (.tmp 11)), .g 13 10 true (.fieldAddr 1 (.tmp 3)), .g 14 10 true (.load none (.tmp 13)), .g 15 10 true (.bin .eql false (.tmp 12) (.tmp 14)), .pf 16 10 15, .m 17 16, .g 18 17 true
 (.fieldAddr 2 (.tmp 2)), .g 19 17 true (.load none (.tmp 18)), .g 20 17 true (.fieldAddr 2 (.tmp 3)), .g 21 17 true (.load none (.tmp 20)), .g 22 17 true (.call 126 [.tmp 19, .tmp 21]), .pf 23 17 22, .m 24 23, .g 25 24
 true (.fieldAddr 3 (.tmp 2)), .g 26 24 true (.load none (.tmp 25)), .g 27 24 true (.fieldAddr 3 (.tmp 3)), .g 28 24 true (.load none (.tmp 27)), .g 29 24 true (.bin .eql false (.tmp 26) (.tmp 28)), .pf 30 24 29, .m 31
 30, .g 32 31 true (.fieldAddr 4 (.tmp 2)), .g 33 31 true (.load none (.tmp 32)), .g 34 31 true (.fieldAddr 4 (.tmp 3)), .g 35 31 true (.load none (.tmp 34)), .g 36 31 true (.bin .eql false (.tmp 33) (.tmp 35)), .pf 37 31
 36, .m 4 37]) .ret)
def AD_ : LF := ⟨2, 38, c82, [.tmp 4]⟩
theorem Em_ : at_ Tryz.prog Tryz.f82 AD_ := ai_
theorem ib_ (xs ys : List ByteArray) (hx : xs.length ≤ 1048576) (h : List Row) : aa_ Tryz.prog 126 [.list 0 1 (xs.map am_), .list 0 1 (ys.map am_)] h (.val (.bool (bm_ xs ys))) := by
 refine aj_ mixed Tryz.func126 y6_ rfl rfl ?_ h
 by_cases hl : xs.length = ys.length
 ·have hl' : ((xs.length : Int) = (ys.length : Int)) = True := by simp [hl]
  simp (disch := omega) only [sR_, up_, hl', go_sem, Nat.reduceEqDiff, reduceCtorEq, ↓reduceIte]
  refine aa_.call (lm_ xs ys hx _) ?_
  simp (disch := omega) only [go_sem, Nat.reduceEqDiff, ↓reduceIte]
  exact ae_ (qx_ xs ys hl)
 ·have hl' : ((xs.length : Int) = (ys.length : Int)) = False := by simp; omega
  simp (disch := omega) only [sR_, up_, hl', go_sem, Nat.reduceEqDiff, reduceCtorEq, ↓reduceIte]
  exact ae_ (by rw [bm_, g2_ _ _ _ hl])
def bE_ (x y : ab_) : Bool := decide (x.Kind = y.Kind) && decide (x.Name = y.Name) && bm_ x.Subs y.Subs && decide (x.Value = y.Value) && decide (x.N = y.N)
theorem lw_ (x y : ab_) (hx : ab_.sz x ≤ 1048576) (h : List Row) : aa_ Tryz.prog 97 [.agg (ab_.cells x), .agg (ab_.cells y)] h (.val (.bool (bE_ x y))) := by
 refine aj_ mixed Tryz.func97 Ew_ rfl rfl ?_ h
 simp (disch := omega) only [AU_, c97, ab_.cells, go_sem, Nat.reduceEqDiff, Nat.reduceAdd, ↓reduceIte]
 by_cases e_Kind : x.Kind = y.Kind
 ·have q_Kind := eq_true e_Kind
  simp (disch := omega) only [q_Kind, go_sem, Nat.reduceEqDiff, ↓reduceIte]
  by_cases e_Name : x.Name = y.Name
  ·have q_Name := eq_true e_Name
   simp (disch := omega) only [q_Name, go_sem, Nat.reduceEqDiff, ↓reduceIte]
   first | refine aa_.call (de_ x.Subs y.Subs (ax_ (ab_.sz_Subs hx)) _) ?_ | refine aa_.q (de_ x.Subs y.Subs (ax_ (ab_.sz_Subs hx)) _) ?_
   by_cases q_Subs : bm_ x.Subs y.Subs = true
   ·skip
    simp (disch := omega) only [q_Subs, go_sem, Nat.reduceEqDiff, ↓reduceIte]
    by_cases e_Value : x.Value = y.Value
    ·have q_Value := eq_true e_Value
     simp (disch := omega) only [q_Value, go_sem, Nat.reduceEqDiff, ↓reduceIte]
     by_cases e_N : x.N = y.N
     ·have q_N := eq_true e_N
      simp (disch := omega) only [q_N, go_sem]
      exact ae_ (by simp [bE_, *])
     ·have q_N := eq_false e_N
      simp (disch := omega) only [q_N, go_sem]
      exact ae_ (by simp [bE_, *])
    ·have q_Value := eq_false e_Value
     simp (disch := omega) only [q_Value, go_sem, Nat.reduceEqDiff, ↓reduceIte]
     exact ae_ (by simp [bE_, *])
   ·replace q_Subs : bm_ x.Subs y.Subs = false := by simpa using q_Subs
    simp (disch := omega) only [q_Subs, go_sem, Nat.reduceEqDiff, ↓reduceIte]
    exact ae_ (by simp [bE_, *])
  ·have q_Name := eq_false e_Name
   simp (disch := omega) only [q_Name, go_sem, Nat.reduceEqDiff, ↓reduceIte]
   exact ae_ (by simp [bE_, *])
 ·have q_Kind := eq_false e_Kind
  simp (disch := omega) only [q_Kind, go_sem, Nat.reduceEqDiff, ↓reduceIte]
  exact ae_ (by simp [bE_, *])
theorem jV_ (x y : ab_) (hx : ab_.sz x ≤ 1048576) (h : List Row) : aa_ Tryz.prog 82 [.agg (ab_.cells x), .agg (ab_.cells y)] h (.val (.bool (bE_ x y))) := by
 refine aj_ mixed Tryz.func82 Em_ rfl rfl ?_ h
 simp (disch := omega) only [AD_, c82, ab_.cells, go_sem, Nat.reduceEqDiff, Nat.reduceAdd, ↓reduceIte]
 by_cases e_Kind : x.Kind = y.Kind
 ·have q_Kind := eq_true e_Kind
  simp (disch := omega) only [q_Kind, go_sem, Nat.reduceEqDiff, ↓reduceIte]
  by_cases e_Name : x.Name = y.Name
  ·have q_Name := eq_true e_Name
   simp (disch := omega) only [q_Name, go_sem, Nat.reduceEqDiff, ↓reduceIte]
   first | refine aa_.call (ib_ x.Subs y.Subs (ax_ (ab_.sz_Subs hx)) _) ?_ | refine aa_.q (ib_ x.Subs y.Subs (ax_ (ab_.sz_Subs hx)) _) ?_
   by_cases q_Subs : bm_ x.Subs y.Subs = true
   ·skip
    simp (disch := omega) only [q_Subs, go_sem, Nat.reduceEqDiff, ↓reduceIte]
    by_cases e_Value : x.Value = y.Value
    ·have q_Value := eq_true e_Value
     simp (disch := omega) only [q_Value, go_sem, Nat.reduceEqDiff, ↓reduceIte]
     by_cases e_N : x.N = y.N
     ·have q_N := eq_true e_N
      simp (disch := omega) only [q_N, go_sem]
      exact ae_ (by simp [bE_, *])
     ·have q_N := eq_false e_N
      simp (disch := omega) only [q_N, go_sem]
      exact ae_ (by simp [bE_, *])
    ·have q_Value := eq_false e_Value
     simp (disch := omega) only [q_Value, go_sem, Nat.reduceEqDiff, ↓reduceIte]
     exact ae_ (by simp [bE_, *])
   ·replace q_Subs : bm_ x.Subs y.Subs = false := by simpa using q_Subs
    simp (disch := omega) only [q_Subs, go_sem, Nat.reduceEqDiff, ↓reduceIte]
    exact ae_ (by simp [bE_, *])
  ·have q_Name := eq_false e_Name
   simp (disch := omega) only [q_Name, go_sem, Nat.reduceEqDiff, ↓reduceIte]
   exact ae_ (by simp [bE_, *])
 ·have q_Kind := eq_false e_Kind
  simp (disch := omega) only [q_Kind, go_sem, Nat.reduceEqDiff, ↓reduceIte]
  exact ae_ (by simp [bE_, *])
def dX_ (x : ab_) : a5_ := ⟨if x.Kind = 3 then 2 else 1, x.Name, x.Subs, x.Value⟩
theorem rM_ {x : ab_} (k : x.Kind = 3) : dX_ x = ⟨2, x.Name, x.Subs, x.Value⟩ := by rw [dX_, if_pos k]
theorem rT_ {x : ab_} (k : ¬ x.Kind = 3) : dX_ x = ⟨1, x.Name, x.Subs, x.Value⟩ := by rw [dX_, if_neg k]
theorem lJ_ {e : ab_} (h : bx_ e = true) (ht : cd_ e = true) : cZ_ (dX_ e) = true := by
 have k5 : ¬ e.Kind = 5 := by
  intro k; simp [cd_, k] at ht
 have hth := g8_ h k5
 unfold bx_ at h
 simp only [Bool.and_eq_true] at h
 have hr := h.1.2
 simp only [cd_, Bool.or_eq_true, decide_eq_true_eq] at ht
 rcases ht with k | k
 ·rw [rT_ (by omega)]
  simp only [bi_, k, fo_] at hr
  simp at hr
  simp only [cZ_, hth, Bool.true_and, Bool.or_eq_true, Bool.and_eq_true, decide_eq_true_eq]
  left; refine ⟨by simp, ?_⟩; have := hr.2; omega
 ·rw [rM_ k]
  simp only [bi_, k] at hr
  simp at hr
  simp only [cZ_, hth, Bool.true_and, Bool.or_eq_true, Bool.and_eq_true, decide_eq_true_eq]
  right; exact ⟨by simp, hr.2⟩
def bK_ (x : ad_) (e : ab_) : ad_ × Int := if cd_ e = true then b0_ x (dX_ e) else (if bE_ (bn_ x e) e = true then (x, 0) else (⟨[]⟩, 5))
theorem kR_ {x : ad_} {e : ab_} (h : aH_ x = true) (hn : bx_ e = true) : aH_ (bK_ x e).1 = true := by
 unfold bK_
 split
 ·rename_i ht; exact sE_ h (lJ_ hn ht)
 ·split
  ·exact h
  ·exact f9_
def cm_ : ad_ → List ab_ → Nat → ad_ × Int × Int
 | x, [], _ => (x, 0, 0)
 | x, e :: es, k => if (bK_ x e).2 = 0 then cm_ (bK_ x e).1 es (k + 1) else (⟨[]⟩, (k : Int), (bK_ x e).2)
theorem mq_ : ∀ (es : List ab_) (x : ad_) (k : Nat), aH_ x = true → (∀ e ∈ es, bx_ e = true) → aH_ (cm_ x es k).1 = true
 | [], x, k, h, _ => h
 | e :: es, x, k, h, hn => by
  unfold cm_
  split
  ·exact mq_ es _ _ (kR_ h (hn e (by simp))) (fun a ha => hn a (by simp [ha]))
  ·exact f9_
theorem kz_ {es : List ab_} (h : c8_ es = true) : es.length ≤ 60 ∧ ∀ e ∈ es, bx_ e = true := by
 simp only [c8_, Bool.and_eq_true, decide_eq_true_eq, List.all_eq_true] at h
 exact ⟨by omega, h.2⟩
def bI_ (x : ad_) (es : List ab_) : ad_ × Int × Int := if (aH_ x && c8_ es) = true then cm_ x es 0 else (⟨[]⟩, 0, 1)
theorem cF_ {α : Type} {es : List α} {k : Nat} (h : k < es.length) : es.drop k = es[k] :: es.drop (k + 1) := List.drop_eq_getElem_cons h
theorem h8_ {x : ad_} {es : List ab_} {k : Nat} (h : k < es.length) (h0 : (bK_ x es[k]).2 = 0) : cm_ x (es.drop k) k = cm_ (bK_ x es[k]).1 (es.drop (k + 1)) (k + 1) := by
 rw [cF_ h, cm_, if_pos h0]
theorem h3_ {x : ad_} {es : List ab_} {k : Nat} (h : k < es.length) (h0 : ¬ (bK_ x es[k]).2 = 0) : cm_ x (es.drop k) k = (⟨[]⟩, (k : Int), (bK_ x es[k]).2) := by
 rw [cF_ h, cm_, if_neg h0]
theorem ly_ {x : ad_} {es : List ab_} {k : Nat} (h : es.length ≤ k) : cm_ x (es.drop k) k = (x, 0, 0) := by
 rw [List.drop_eq_nil_of_le h, cm_]
theorem gD_ {h0 hn : List Row} {x1 x2 y1 y2 : Row} {k : Int} {n v : ByteArray} {s : List ByteArray} {l : Nat} (hf : em_ (h0 ++ [y1, y2]).length ((h0 ++ [y1, y2]) ++ hn) (.own l s.length) (.list 0 1 (s.map am_))) :
 em_ h0.length (h0 ++ x1 :: x2 :: hn) (.agg [.val (.int .i64 k), .val (.string n), .own l s.length, .val (.string v)]) (.agg (a5_.cells ⟨k, n, s, v⟩)) := by
 have hb := (hf.b.keep (H' := h0 ++ x1 :: x2 :: hn) fun l q1 q2 => BO_ q1).widen (lo' := h0.length) (hi' := (h0 ++ x1 :: x2 :: hn).length) (by simp) (by simp)
 exact (aA_.agg (ap_.val _ (ap_.val _ (ap_.cons hb (ap_.val _ (ap_.nil _ _ _)) ⟨by simp, Nat.le_refl _⟩)))).fresh
def c96 : LC :=
 .seq (.ops [.s 1 (.box 79 (.tmp 0)), .s 2 (.alloc 126 (.agg #[.int .i64 0, .string ⟨#[]⟩, .slice none 0 0, .string ⟨#[]⟩]))]) (.seq (.ops [.ki 3 1]) (.seq (.seq (.ops [.fa 4 0 1, .ln 5 4, .bk 6 .eql false 5 3]) (.cond
 (.tmp 6) (.ops [.ki 3 2]) .skip)) (.seq (.gops [.m 7 3, .fa 8 1 1, .ln 9 8, .fa 10 2 1, .ln 11 10, .fa 13 3 1, .ln 14 13] [(.c1 12 144 11, [.m 7 3, .fa 8 1 1, .ln 9 8, .fa 13 3 1, .ln 14 13]), (.s 15 (.build (.agg #[.int
 .i64 0, .string ⟨#[]⟩, .slice none 0 0, .string ⟨#[]⟩]) [(0, 1), (1, 1), (2, 1), (3, 1)] [(0, .tmp 7), (1, .tmp 9), (2, .tmp 12), (3, .tmp 14)]), []), (.st 4 2 15, [])]) .ret)))
def vt_ : LF := ⟨1, 16, c96, [.cell 2 (some 4)]⟩
theorem Ek_ : at_ Tryz.prog Tryz.f96 vt_ := ai_
def vW_ : LC :=
 .seq (.ops [.s 1 (.box 79 (.tmp 0)), .s 2 (.alloc 126 (.agg #[.int .i64 0, .string ⟨#[]⟩, .slice none 0 0, .string ⟨#[]⟩]))]) (.seq (.ops [.ki 3 1]) (.seq (.seq (.ops [.fa 4 0 1, .ln 5 4, .bk 6 .eql false 5 3]) (.cond
 (.tmp 6) (.ops [.ki 3 2]) .skip)) (.seq (.gops [.m 7 3, .fa 8 1 1, .ln 9 8, .fa 10 2 1, .ln 11 10, .fa 13 3 1, .ln 14 13] [(.c1 12 85 11, [.m 7 3, .fa 8 1 1, .ln 9 8, .fa 13 3 1, .ln 14 13]), (.s 15 (.build (.agg #[.int
 .i64 0, .string ⟨#[]⟩, .slice none 0 0, .string ⟨#[]⟩]) [(0, 1), (1, 1), (2, 1), (3, 1)] [(0, .tmp 7), (1, .tmp 9), (2, .tmp 12), (3, .tmp 14)]), []), (.st 4 2 15, [])]) .ret)))
def sX_ : LF := ⟨1, 16, vW_, [.cell 2 (some 4)]⟩
theorem CH_ : at_ Tryz.prog Tryz.f134 sX_ := ai_
theorem kk_ (x : ab_) (hx : ab_.sz x ≤ 1048576) : aP_ Tryz.prog 96 [.agg (ab_.cells x)] (.agg (a5_.cells (dX_ x))) (fun a => ∃ l, a = .agg [.val (.int .i64 (dX_ x).Kind), .val (.string x.Name), .own l x.Subs.length, .val (.string x.Value)]) := by
 refine da_ mixed Tryz.func96 Ek_ rfl (fun h0 => ?_)
 have h2 := ax_ (ab_.sz_Subs hx)
 by_cases k3 : x.Kind = 3
 ·simp (disch := omega) only [vt_, c96, ab_.cells, k3, ag_, go_sem, Nat.reduceEqDiff, Nat.reduceAdd, ↓reduceIte]
  refine b1_ x.Subs h2 _ _ (fun av hn hf hq => ?_)
  obtain ⟨l, rfl⟩ := hq
  simp (disch := omega) only [bH_, Option.map_some, cC_, append_assoc, go_sem, Nat.reduceEqDiff, Nat.reduceAdd, Nat.reduceLeDiff, ↓reduceIte]
  rw [rM_ k3]
  exact ⟨_, rfl, gD_ hf, _, rfl⟩
 ·have k3' : (x.Kind = 3) = False := eq_false k3
  simp (disch := omega) only [vt_, c96, ab_.cells, k3', ag_, go_sem, Nat.reduceEqDiff, Nat.reduceAdd, ↓reduceIte]
  refine b1_ x.Subs h2 _ _ (fun av hn hf hq => ?_)
  obtain ⟨l, rfl⟩ := hq
  simp (disch := omega) only [bH_, Option.map_some, cC_, append_assoc, go_sem, Nat.reduceEqDiff, Nat.reduceAdd, Nat.reduceLeDiff, ↓reduceIte]
  rw [rT_ k3]
  exact ⟨_, rfl, gD_ hf, _, rfl⟩
theorem jO_ (x : ab_) (hx : ab_.sz x ≤ 1048576) : aP_ Tryz.prog 134 [.agg (ab_.cells x)] (.agg (a5_.cells (dX_ x))) (fun a => ∃ l, a = .agg [.val (.int .i64 (dX_ x).Kind), .val (.string x.Name), .own l x.Subs.length, .val (.string x.Value)]) := by
 refine da_ mixed Tryz.func134 CH_ rfl (fun h0 => ?_)
 have h2 := ax_ (ab_.sz_Subs hx)
 by_cases k3 : x.Kind = 3
 ·simp (disch := omega) only [sX_, vW_, ab_.cells, k3, ag_, go_sem, Nat.reduceEqDiff, Nat.reduceAdd, ↓reduceIte]
  refine d1_ x.Subs h2 _ _ (fun av hn hf hq => ?_)
  obtain ⟨l, rfl⟩ := hq
  simp (disch := omega) only [bH_, Option.map_some, cC_, append_assoc, go_sem, Nat.reduceEqDiff, Nat.reduceAdd, Nat.reduceLeDiff, ↓reduceIte]
  rw [rM_ k3]
  exact ⟨_, rfl, gD_ hf, _, rfl⟩
 ·have k3' : (x.Kind = 3) = False := eq_false k3
  simp (disch := omega) only [sX_, vW_, ab_.cells, k3', ag_, go_sem, Nat.reduceEqDiff, Nat.reduceAdd, ↓reduceIte]
  refine d1_ x.Subs h2 _ _ (fun av hn hf hq => ?_)
  obtain ⟨l, rfl⟩ := hq
  simp (disch := omega) only [bH_, Option.map_some, cC_, append_assoc, go_sem, Nat.reduceEqDiff, Nat.reduceAdd, Nat.reduceLeDiff, ↓reduceIte]
  rw [rT_ k3]
  exact ⟨_, rfl, gD_ hf, _, rfl⟩
end Go.Proofs.YtfplhbjggecnpaaGreatDoor
