/-
 Contracts of functions of this program, over abstract values. Conditions: as each theorem says.
-/
import Derived.Test.YtfplhbjggecnpaaGreatDoorFnUD
import Derived.Test.YtfplhbjggecnpaaGreatDoorAwC
import Derived.Test.YtfplhbjggecnpaaGreatDoorFnTS
namespace Go.Proofs.YtfplhbjggecnpaaGreatDoor
open Go.AW
set_option linter.unusedVariables false
set_option linter.unusedSimpArgs false
set_option maxRecDepth 4000
theorem t8_ {α : Type} (a b : List α) (x : α) : (a ++ x :: b).Perm ([x] ++ (a ++ b)) := List.perm_middle
section
variable {lo E sz l m : Nat} {H H' : List Row} {ts : List Tr} {t' : Tr}
structure of_ (lo : Nat) (H : List Row) (sz l lv : Nat) (ts : List Tr) (t' : Tr) : Prop where
 wide : t'.c.length = sz ∧ t'.c.all AV.cell = true
 tree : ∃ k, aP_ (Own H k) t'.c t'.d t'.f
 one : t'.f.Nodup
 off : ∀ x ∈ t'.f, x ∉ b7_ l ts ∧ x ≠ lv ∧ lo ≤ x ∧ x < H.length
theorem bG_.insert (s : bG_ lo H E sz l m ts) {lv : Nat} (e : of_ lo H sz l lv ts t') {l' m' : Nat} {A B : List Tr} (hAB : (A ++ B).Sublist ts) (hrow : H'[l']? = some ⟨.ty E, sz, (A ++ t' :: B).map Tr.c⟩) (hle : m' ≤ (A ++ t' :: B).length)
 (hk : ∀ x, x < H.length → x ≠ l → H'[x]? = H[x]?) (hl : l' = l ∨ H.length ≤ l') (hlen : H.length ≤ H'.length) : bG_ lo H' E sz l' m' (A ++ t' :: B) := by
 obtain ⟨k, ht⟩ := e.tree
 have hkf : ∀ x ∈ t'.f, H'[x]? = H[x]? := fun x hx => by
  obtain ⟨h1, h2, h3, h4⟩ := e.off x hx
  exact hk x h4 (fun q => h1 (by rw [q]; exact List.mem_cons_self))
 refine s.renew hrow hle (t8_ A B t') hAB (fun t q => ?_) ⟨k, fun t q => ?_⟩ ?_ (fun x hx => ?_) (fun x hx => ?_) hl hlen
 ·simp only [List.mem_singleton] at q; subst q; exact e.wide
 ·simp only [List.mem_singleton] at q; subst q
  exact aP_.mono (fun a r g hg ho => ho.keep fun x hx => hkf x (hg x hx)) ht
 ·simp only [List.map_cons, List.map_nil, List.flatten_cons, List.flatten_nil, List.append_nil]; exact e.one
 ·simp only [List.map_cons, List.map_nil, List.flatten_cons, List.flatten_nil, List.append_nil] at hx
  obtain ⟨h1, h2, h3, h4⟩ := e.off x hx
  refine ⟨h1, fun q => ?_, h3, by omega⟩
  rcases hl with q2 | q2
  ·exact h1 (by rw [q, q2]; exact List.mem_cons_self)
  ·omega
 ·have h5 : x ≠ l := fun q => (List.nodup_cons.1 s.one).1 (q ▸ hx)
  exact hk x (s.lows x (List.mem_cons_of_mem _ hx)).2 h5
theorem pD_ {l' : Nat} {A B : List Tr} (hAB : (A ++ B).Sublist ts) (hl : l' = l ∨ H.length ≤ l') : ∀ x ∈ b7_ l' (A ++ t' :: B), x ∈ b7_ l ts ∨ x ∈ t'.f ∨ H.length ≤ x := by
 intro x hx
 have hsub : ∀ t ∈ A ++ B, t ∈ ts := fun t q => hAB.subset q
 simp only [b7_, List.map_append, List.map_cons, List.flatten_append, List.flatten_cons, List.mem_cons, List.mem_append] at hx
 have old : ∀ (C : List Tr), (∀ t ∈ C, t ∈ ts) → x ∈ (C.map Tr.f).flatten → x ∈ b7_ l ts := fun C hC q => by
  obtain ⟨f, q1, q2⟩ := List.mem_flatten.1 q
  obtain ⟨t, q3, rfl⟩ := List.mem_map.1 q1
  exact jH_ (hC t q3) q2
 rcases hx with q | q | q | q
 ·rcases hl with e | e
  ·left; rw [q, e]; exact List.mem_cons_self
  ·right; right; omega
 ·exact .inl (old A (fun t z => hsub t (List.mem_append_left _ z)) q)
 ·exact .inr (.inl q)
 ·exact .inl (old B (fun t z => hsub t (List.mem_append_right _ z)) q)
end
theorem of_.of {lo a b sz l lv : Nat} {H : List Row} {ts : List Tr} {cs ds : List AV} (hF : aw_ a b H cs ds) (hd : ds.length = sz ∧ ∀ r ∈ ds, r.cell = true) (ha : ∀ y ∈ b7_ l ts, y < a) (hlo : lo ≤ a) (hv : b ≤ lv) (hb : b ≤ H.length) : ∃ f, of_ lo H sz l lv ts ⟨cs, ds, f⟩ ∧ ∀ y ∈ f, a ≤ y := by
 obtain ⟨n, f, h1, h2, h3⟩ := hF
 obtain ⟨q1, q2⟩ := h1.cells_of hd.2
 exact ⟨f, ⟨⟨q1.trans hd.1, q2⟩, ⟨n, h1⟩, h2, fun x hx => by
  have := h3 x hx
  exact ⟨fun q => by have := ha x q; omega, by omega, by omega, by omega⟩⟩, fun y hy => (h3 y hy).1⟩
theorem qq_ {α : Type} {es : List α} {i m : Nat} (hi : i < m) : (List.take (m + 1 - (i + 1)) (List.drop i (List.take (m + 1) es))) = (es.take m).drop i := by
 rw [List.drop_take, List.drop_take, List.take_take]
 congr 1; omega
theorem uk_ {α : Type} {es : List α} {v : α} {i m N : Nat} (hN : es.length = N) (hi : i < m) (hm : m < N) :
 List.take i (List.take (i + 1) es ++ (List.take (m + 1 - (i + 1)) (List.drop i (List.take (m + 1) es)) ++ List.drop (i + 1 + min (min (m + 1) N - i) (m + 1 - (i + 1))) es)) ++
  (List.take (m + 1 - i) [v] ++ List.drop (i + min 1 (m + 1 - i)) (List.take (i + 1) es ++ (List.take (m + 1 - (i + 1)) (List.drop i (List.take (m + 1) es)) ++ List.drop (i + 1 + min (min (m + 1) N - i) (m + 1 - (i + 1))) es))) =
 es.take i ++ v :: ((es.take m).drop i ++ es.drop (m + 1)) := by
 have e1 : i + 1 + min (min (m + 1) N - i) (m + 1 - (i + 1)) = m + 1 := by omega
 have e2 : i + min 1 (m + 1 - i) = i + 1 := by omega
 have e3 : List.take (m + 1 - i) [v] = [v] := List.take_of_length_le (by simp; omega)
 have e4 : (List.take (i + 1) es).length = i + 1 := by rw [List.length_take]; omega
 rw [e1, e2, e3, qq_ hi, List.take_append_of_le_length (by omega), List.take_take, Nat.min_eq_left (by omega), List.drop_left' e4]
 rfl
theorem uR_ {α : Type} {es Z : List α} {v : α} {i cap : Nat} (hN : es.length = cap) (hi : i < cap) (hZ : Z.length = cap + 1 - i) :
 List.take (i + 1) (List.take i (List.take i es ++ Z) ++ (List.take (cap + 1 - i) [v] ++ List.drop (i + min 1 (cap + 1 - i)) (List.take i es ++ Z))) ++
  (List.take (cap + 1 - (i + 1)) (List.drop i (List.take cap es)) ++ List.drop (i + 1 + min (min cap cap - i) (cap + 1 - (i + 1))) (List.take i (List.take i es ++ Z) ++ (List.take (cap + 1 - i) [v] ++ List.drop (i + min 1 (cap + 1 - i)) (List.take i es ++ Z)))) =
 es.take i ++ v :: es.drop i := by
 have e0 : (List.take i es).length = i := by rw [List.length_take]; omega
 have e1 : i + 1 + min (min cap cap - i) (cap + 1 - (i + 1)) = cap + 1 := by omega
 have e2 : i + min 1 (cap + 1 - i) = i + 1 := by omega
 have e3 : List.take (cap + 1 - i) [v] = [v] := List.take_of_length_le (by simp; omega)
 have e4 : List.take cap es = es := List.take_of_length_le (by omega)
 have e5 : List.take (cap + 1 - (i + 1)) (List.drop i es) = es.drop i := List.take_of_length_le (by rw [List.length_drop]; omega)
 have e6 : List.take i (List.take i es ++ Z) = es.take i := List.take_left' e0
 have e7 : ∀ W : List α, List.take (i + 1) (List.take i es ++ ([v] ++ W)) = es.take i ++ [v] := fun W => by
  rw [← List.append_assoc]
  exact List.take_left' (by rw [la_, e0]; rfl)
 have e8 : List.drop (cap + 1) (List.take i es ++ ([v] ++ List.drop (i + 1) (List.take i es ++ Z))) = [] := List.drop_eq_nil_of_le (by simp only [la_, List.length_drop, List.length_take, lc_, ln_, hZ]; omega)
 rw [e1, e2, e3, e4, e5, e6, e7, e8, List.append_nil]
 simp
def os_ : LC :=
 .seq (.ops [.s 6 (.mov (.const (.slice none 0 0)))]) (.seq (.ops [.m 10 0, .m 11 1, .s 12 (.sliceSl 3 (.tmp 10) (some (.tmp 11)) none)]) (.seq (.ops [.m 13 2, .ll 14 13, .m 7 14]) (.seq (.seq (.ops [.m 15 7, .bk 16 .eql
 false 15 0]) (.cond (.tmp 16) (.seq (.ops [.m 17 0, .m 6 17]) .ret) .skip)) (.seq (.ops [.m 18 0, .ll 19 18, .m 8 19]) (.seq (.seq (.ops [.m 20 1, .m 21 8, .bb 22 .eql false 20 21]) (.cond (.tmp 22) (.seq (.ops [.m 23 0,
 .m 24 2, .ap 25 112 3 56 23 24, .m 6 25]) .ret) .skip)) (.seq (.seq (.ops [.m 26 8, .m 27 7, .bb 28 .add false 26 27, .m 29 0, .s 30 (.capSl (.tmp 29)), .bb 31 .gtr false 28 30]) (.cond (.tmp 31) (.seq (.ops [.m 32 0, .m
 33 1, .s 34 (.sliceSl 3 (.tmp 32) none (some (.tmp 33))), .m 35 8, .m 36 7, .bb 37 .add false 35 36, .m 38 1, .bb 39 .sub false 37 38, .s 40 (.appendZ 112 3 56 (.agg #[.string ⟨#[]⟩, .slice none 0 0, .string ⟨#[]⟩])
 (.tmp 34) (.tmp 39)), .m 9 40]) (.seq (.ops [.m 41 9, .m 42 1, .s 43 (.sliceSl 3 (.tmp 41) (some (.tmp 42)) none), .m 44 2, .s 45 (.copySl 3 (.tmp 43) (.tmp 44))]) (.seq (.gops [.m 46 9, .m 47 1, .m 48 7, .bb 49 .add
 false 47 48, .s 50 (.sliceSl 3 (.tmp 46) (some (.tmp 49)) none), .m 51 0, .m 52 1, .s 53 (.sliceSl 3 (.tmp 51) (some (.tmp 52)) none)] [(.s 54 (.copySl 3 (.tmp 50) (.tmp 53)), [])]) (.seq (.ops [.m 55 9, .m 6 55])
 .ret)))) .skip)) (.seq (.ops [.m 56 0, .m 57 8, .m 58 7, .bb 59 .add false 57 58, .s 60 (.sliceSl 3 (.tmp 56) none (some (.tmp 59))), .m 0 60]) (.seq (.seq (.ops [.m 61 2, .m 62 0, .m 63 1, .m 64 7, .bb 65 .add false 63
 64, .s 66 (.sliceSl 3 (.tmp 62) (some (.tmp 65)) none), .s 67 (.ovl (.tmp 61) (.tmp 66)), .nt 68 67]) (.cond (.tmp 68) (.seq (.gops [.m 69 0, .m 70 1, .m 71 7, .bb 72 .add false 70 71, .s 73 (.sliceSl 3 (.tmp 69) (some
 (.tmp 72)) none), .m 74 0, .m 75 1, .s 76 (.sliceSl 3 (.tmp 74) (some (.tmp 75)) none)] [(.s 77 (.copySl 3 (.tmp 73) (.tmp 76)), [])]) (.seq (.ops [.m 78 0, .m 79 1, .s 80 (.sliceSl 3 (.tmp 78) (some (.tmp 79)) none), .m
 81 2, .s 82 (.copySl 3 (.tmp 80) (.tmp 81))]) (.seq (.ops [.m 83 0, .m 6 83]) .ret))) .skip)) (.seq (.ops [.m 84 0, .m 85 8, .s 86 (.sliceSl 3 (.tmp 84) (some (.tmp 85)) none), .m 87 2, .s 88 (.copySl 3 (.tmp 86) (.tmp
 87))]) (.seq (.ops [.m 89 0, .m 90 1, .s 91 (.sliceSl 3 (.tmp 89) (some (.tmp 90)) none), .m 92 7, .c2 93 213 91 92]) (.seq (.ops [.m 94 0, .m 6 94]) .ret)))))))))))
def mr_ : LF := ⟨3, 95, os_, [.tmp 6]⟩
theorem s5_ : ar_ Tryz.prog Tryz.f184 mr_ := ah_
theorem sm_ (a b : Nat) : Nat.min a b = min a b := rfl
theorem sK_ {α : Type} {es : List α} {j : α} {n : Nat} (h : es.length = n) : (es ++ [j]).take n = es := by rw [← h, List.take_left']; rfl
theorem ed_ {l N m lv i : Nat} {H : List Row} {es : List (List AV)} {v : List AV} (hr : H[l]? = some ⟨.ty 112, 3, es⟩) (hN : es.length = N) (hm : m < N) (hi : i ≤ m) (hm2 : m ≤ 1048575) (hc : ∀ e ∈ es.take m, e.all AV.cell = true) (hv : H[lv]? = some ⟨.ty 112, 3, [v]⟩) (hvc : v.all AV.cell = true) (hlv : lv ≠ l)
 {K : AV → List Row → Prop} (hk : K (.sub l N 0 (m + 1)) (H.set l ⟨.ty 112, 3, es.take i ++ v :: ((es.take m).drop i ++ es.drop (m + 1))⟩)) : callSem Tryz.prog 184 [.sub l N 0 m, .val (.int .i64 i), .own lv 1] H K := by
 refine bD_ mixed Tryz.func184 s5_ (c7_ rfl ?_)
 have hll := (List.getElem?_eq_some_iff.1 hr).1
 have hvl := (List.getElem?_eq_some_iff.1 hv).1
 by_cases him : i = m
 ·subst him
  have e1 : (es.take i).drop i = [] := List.drop_eq_nil_of_le (by rw [List.length_take]; omega)
  rw [e1, List.nil_append] at hk
  have e2 : i + 1 ≤ N := hm
  simp (disch := (first | omega | (simp only [ls_, la_, lc_, ln_]; first | done | omega))) only [go_sem, Nat.reduceEqDiff, Nat.reduceLeDiff, reduceCtorEq, ↓reduceIte, mr_, os_, hr, hv, hN, hvc, e2, Nat.sub_zero, Nat.zero_add]
  exact ⟨by omega, by omega, by omega, hk⟩
 ·have him' : ((i : Int) = (m : Int)) = False := eq_false (by omega)
  simp (disch := (first | omega | (simp only [ls_, la_, lc_, ln_]; first | done | omega))) only [go_sem, Nat.reduceEqDiff, reduceCtorEq, ↓reduceIte, mr_, os_, hr, hv, hN, him', Nat.sub_zero, Nat.zero_add]
  intro cap hcap
  have hcf : ((cap : Int) < (m : Int) + ((1 : Nat) : Int)) = False := eq_false (by omega)
  have hm1 : m + 1 ≤ N := hm
  have htm : ((m : Int) + ((1 : Nat) : Int)).toNat = m + 1 := by omega
  have hti : ((i : Int) + ((1 : Nat) : Int)).toNat = i + 1 := by omega
  simp (disch := (first | omega | (simp only [ls_, la_, lc_, ln_]; first | done | omega))) only [au_, aH_, go_sem, Nat.reduceEqDiff, Nat.reduceLeDiff, reduceCtorEq, ↓reduceIte, hcf, htm, hti, hr, hv, hN, hm1, Nat.sub_zero, Nat.zero_add, la_, List.length_take, List.length_drop, lc_, ln_, sm_, if_pos]
  refine ⟨hlv, hi, fun e he => ?_, by omega, by omega, fun e he => ?_, ?_⟩
  ·rw [qq_ (by omega)] at he
   exact hc e (List.mem_of_mem_drop he)
  ·have := List.mem_of_mem_take he
   simp only [List.mem_singleton] at this
   subst this; exact hvc
  ·rw [List.set_set]
   exact (congrArg (fun z => K (.sub l N 0 (m + 1)) (H.set l ⟨.ty 112, 3, z⟩)) (uk_ hN (by omega) hm)).mpr hk
theorem gy_ {l N lv i : Nat} {H : List Row} {es : List (List AV)} {v : List AV} (hr : H[l]? = some ⟨.full 112, 3, es⟩) (hN : es.length = N) (hi : i ≤ N) (hm2 : N ≤ 1048575) (hc : ∀ e ∈ es, e.all AV.cell = true) (hv : H[lv]? = some ⟨.ty 112, 3, [v]⟩) (hvc : v.all AV.cell = true) (hlv : lv ≠ l)
 {K : AV → List Row → Prop} (hk : K (.own H.length (N + 1)) (H ++ [⟨.ty 112, 3, es.take i ++ v :: es.drop i⟩])) : callSem Tryz.prog 184 [.sub l N 0 N, .val (.int .i64 i), .own lv 1] H K := by
 refine bD_ mixed Tryz.func184 s5_ (c7_ rfl ?_)
 have hll := (List.getElem?_eq_some_iff.1 hr).1
 have hvl := (List.getElem?_eq_some_iff.1 hv).1
 by_cases him : i = N
 ·subst him
  simp (disch := (first | omega | (simp only [ls_, la_, lc_, ln_]; first | done | omega))) only [go_sem, Nat.reduceEqDiff, Nat.reduceLeDiff, reduceCtorEq, ↓reduceIte, mr_, os_, hr, hv, hN, hvc, Nat.sub_zero, Nat.zero_add]
  rw [← hN, List.take_length, List.drop_length] at *
  exact ⟨by omega, by omega, by omega, hk⟩
 ·have him' : ((i : Int) = (N : Int)) = False := eq_false (by omega)
  simp (disch := (first | omega | (simp only [ls_, la_, lc_, ln_]; first | done | omega))) only [go_sem, Nat.reduceEqDiff, reduceCtorEq, ↓reduceIte, mr_, os_, hr, hv, hN, him', Nat.sub_zero, Nat.zero_add]
  intro cap hcap1 hcap
  subst hcap
  have hcf : ((cap : Int) < (cap : Int) + ((1 : Nat) : Int)) = True := eq_true (by omega)
  have htm : ((cap : Int) + ((1 : Nat) : Int) - (i : Int)).toNat = cap + 1 - i := by omega
  have hti : ((i : Int) + ((1 : Nat) : Int)).toNat = i + 1 := by omega
  simp (disch := (first | omega | (simp only [ls_, la_, lc_, ln_]; first | done | omega))) only [ay_, aN_, go_sem, Nat.reduceEqDiff, reduceCtorEq, ↓reduceIte, hcf, htm, hti, hr, hv, hN, Nat.sub_zero, Nat.zero_add, la_, List.length_take, List.length_drop, lc_, ln_, List.length_replicate, sm_, if_pos]
  have hn : i + (cap + 1 - i) = cap + 1 := by omega
  rw [hn]
  refine ⟨by omega, by omega, by omega, by omega, by omega, by omega, by omega, fun e he => ?_, by omega, by omega, fun e he => ?_, ?_⟩
  ·have := List.mem_of_mem_take he
   simp only [List.mem_singleton] at this
   subst this; exact hvc
  ·exact hc e (List.mem_of_mem_take (List.mem_of_mem_drop (List.mem_of_mem_take he)))
  ·refine (congrArg (fun z => K (.own H.length (cap + 1)) (H ++ [⟨.ty 112, 3, z⟩])) (uR_ hN (by omega) ?_)).mpr hk
   exact List.length_replicate
theorem g6_ {lo l m lv i a b : Nat} {H : List Row} {ts : List Tr} {cs ds : List AV} (s : bG_ lo H 112 3 l m ts) (hi : i ≤ m) (hm : m ≤ 1048575) (hv : H[lv]? = some ⟨.ty 112, 3, [cs]⟩) (hF : aw_ a b H cs ds) (hd : ds.length = 3 ∧ ∀ r ∈ ds, r.cell = true) (ha : ∀ y ∈ b7_ l ts, y < a) (hla : lo ≤ a) (hab : a ≤ b) (hbv : b ≤ lv) {K : AV → List Row → Prop}
 (hk : ∀ (av : AV) (H' : List Row) (l' : Nat) (ts' : List Tr), H.length ≤ H'.length → (∀ x, x < H.length → x ≠ l → H'[x]? = H[x]?) → bG_ lo H' 112 3 l' (m + 1) ts' → Sl av l' (m + 1) ts' → (ts'.take (m + 1)).map Tr.d = ((ts.take m).map Tr.d).take i ++ ds :: ((ts.take m).map Tr.d).drop i → (∀ y ∈ b7_ l' ts', y ∈ b7_ l ts ∨ a ≤ y) → K av H') :
 callSem Tryz.prog 184 [.sub l ts.length 0 m, .val (.int .i64 i), .own lv 1] H K := by
 have hr := s.row
 have hll := s.lt
 have hle := s.le
 have hvl := (List.getElem?_eq_some_iff.1 hv).1
 have hlv : lv ≠ l := fun q => by
  have := ha l List.mem_cons_self
  omega
 obtain ⟨f, e, hfa⟩ := of_.of (lv := lv) hF hd ha hla hbv (by omega)
 have hft : ∀ {l' : Nat} {A B : List Tr}, (A ++ B).Sublist ts → (l' = l ∨ H.length ≤ l') → ∀ y ∈ b7_ l' (A ++ ⟨cs, ds, f⟩ :: B), y ∈ b7_ l ts ∨ a ≤ y := fun {l' A B} h1 h2 y hy => by
  rcases pD_ h1 h2 y hy with q | q | q
  ·exact .inl q
  ·exact .inr (hfa y q)
  ·exact .inr (by omega)
 obtain ⟨hw1, hw2⟩ := e.wide
 have hwc : ∀ x ∈ ts.map Tr.c, x.all AV.cell = true := fun x hx => by
  obtain ⟨t, ht, rfl⟩ := List.mem_map.1 hx
  exact (s.wide t ht).2
 have hdat : ∀ (C : List Tr), C.take (m + 1) = ts.take i ++ ⟨cs, ds, f⟩ :: (ts.take m).drop i → (C.take (m + 1)).map Tr.d = ((ts.take m).map Tr.d).take i ++ ds :: ((ts.take m).map Tr.d).drop i := fun C q => by
  rw [q, List.map_append, List.map_cons, List.map_drop, ← List.map_take, List.take_take, Nat.min_eq_left hi]
 by_cases hmN : m < ts.length
 ·refine ed_ hr (by simp) hmN hi hm (fun x hx => hwc x (List.mem_of_mem_take hx)) hv hw2 hlv ?_
  have hrow : (ts.map Tr.c).take i ++ cs :: (((ts.map Tr.c).take m).drop i ++ (ts.map Tr.c).drop (m + 1)) = (ts.take i ++ ⟨cs, ds, f⟩ :: ((ts.take m).drop i ++ ts.drop (m + 1))).map Tr.c := by
   simp only [List.map_append, List.map_cons, List.map_take, List.map_drop]
  have hsub : (ts.take i ++ ((ts.take m).drop i ++ ts.drop (m + 1))).Sublist ts := by
   rw [← List.append_assoc]
   have e1 : ts.take i ++ (ts.take m).drop i = ts.take m := by
    have := List.take_append_drop i (ts.take m)
    rwa [List.take_take, Nat.min_eq_left hi] at this
   rw [e1]
   have e2 : (ts.take m ++ ts.drop (m + 1)).Sublist (ts.take m ++ ts.drop m) := List.Sublist.append (List.Sublist.refl _) (by rw [← List.drop_drop]; exact List.drop_sublist _ _)
   rwa [List.take_append_drop] at e2
  have hlen : (ts.take i ++ (⟨cs, ds, f⟩ : Tr) :: ((ts.take m).drop i ++ ts.drop (m + 1))).length = ts.length := by
   simp only [la_, lc_, List.length_take, List.length_drop]; omega
  rw [hrow]
  have hs := bG_.insert s (H' := H.set l ⟨.ty 112, 3, (ts.take i ++ ⟨cs, ds, f⟩ :: ((ts.take m).drop i ++ ts.drop (m + 1))).map Tr.c⟩) (m' := m + 1) e hsub (aH_ hll) (by omega) (fun x q1 q2 => au_ (Ne.symm q2)) (.inl rfl) (by simp)
  refine hk _ _ l (ts.take i ++ ⟨cs, ds, f⟩ :: ((ts.take m).drop i ++ ts.drop (m + 1))) (by simp) (fun x q1 q2 => au_ (Ne.symm q2)) hs (.inl (by rw [hlen])) (hdat _ ?_) (hft hsub (.inl rfl))
  have e3 : m + 1 = (ts.take i ++ (⟨cs, ds, f⟩ : Tr) :: (ts.take m).drop i).length := by
   simp only [la_, lc_, List.length_take, List.length_drop]; omega
  have e4 : ts.take i ++ (⟨cs, ds, f⟩ : Tr) :: ((ts.take m).drop i ++ ts.drop (m + 1)) = (ts.take i ++ (⟨cs, ds, f⟩ : Tr) :: (ts.take m).drop i) ++ ts.drop (m + 1) := by simp
  rw [e4, List.take_left' e3.symm]
 ·have hmN' : m = ts.length := by omega
  subst hmN'
  have hsub : (ts.take i ++ ts.drop i).Sublist ts := by rw [List.take_append_drop]; exact List.Sublist.refl _
  have hrow : (ts.map Tr.c).take i ++ cs :: (ts.map Tr.c).drop i = (ts.take i ++ ⟨cs, ds, f⟩ :: ts.drop i).map Tr.c := by
   simp only [List.map_append, List.map_cons, List.map_take, List.map_drop]
  have hlen : (ts.take i ++ (⟨cs, ds, f⟩ : Tr) :: ts.drop i).length = ts.length + 1 := by
   simp only [la_, lc_, List.length_take, List.length_drop]; omega
  have htk : (ts.take i ++ (⟨cs, ds, f⟩ : Tr) :: ts.drop i).take (ts.length + 1) = ts.take i ++ ⟨cs, ds, f⟩ :: (ts.take ts.length).drop i := by rw [List.take_of_length_le (by omega), List.take_length]
  refine rj_ hr (by simp) (by decide) ?_ ?_
  ·have jt : (ts.map Tr.c ++ [List.replicate 3 AV.undef]).take ts.length = ts.map Tr.c := sK_ (by simp)
   refine ed_ (N := ts.length + 1) (m := ts.length) (es := ts.map Tr.c ++ [List.replicate 3 .undef]) (aH_ hll) (by simp) (by omega) hi hm (fun x hx => hwc x ?_) (by rw [au_ (Ne.symm hlv)]; exact hv) hw2 hlv ?_
   ·rwa [jt] at hx
   ·rw [jt]
    have e5 : (ts.map Tr.c ++ [List.replicate 3 AV.undef]).take i = (ts.map Tr.c).take i := by rw [List.take_append_of_le_length (by simp; omega)]
    have e6 : (ts.map Tr.c ++ [List.replicate 3 AV.undef]).drop (ts.length + 1) = [] := List.drop_eq_nil_of_le (by simp)
    rw [e5, e6, List.append_nil, List.set_set, hrow]
    have hs := bG_.insert s (H' := H.set l ⟨.ty 112, 3, (ts.take i ++ ⟨cs, ds, f⟩ :: ts.drop i).map Tr.c⟩) (m' := ts.length + 1) e hsub (aH_ hll) (by omega) (fun x q1 q2 => au_ (Ne.symm q2)) (.inl rfl) (by simp)
    exact hk _ _ l (ts.take i ++ ⟨cs, ds, f⟩ :: ts.drop i) (by simp) (fun x q1 q2 => au_ (Ne.symm q2)) hs (.inl (by rw [hlen])) (hdat _ htk) (hft hsub (.inl rfl))
  ·refine gy_ (N := ts.length) (es := ts.map Tr.c) (aH_ hll) (by simp) hi hm hwc (by rw [au_ (Ne.symm hlv)]; exact hv) hw2 hlv ?_
   refine ⟨by rw [ay_ (by simpa using hll)]; exact aH_ hll, ?_⟩
   rw [ls_, hrow]
   have hst : ∀ r1 r2 r3 : Row, H[l]? = some r3 → (H.set l r1 ++ [r2]).set l r3 = H ++ [r2] := fun r1 r2 r3 q => by
    rw [List.set_append_left _ _ (by simpa using hll), List.set_set, pL_ q]
   rw [hst _ _ _ hr]
   have hs := bG_.insert s (l' := H.length) (H' := H ++ [⟨.ty 112, 3, (ts.take i ++ ⟨cs, ds, f⟩ :: ts.drop i).map Tr.c⟩]) (m' := ts.length + 1) e hsub (aN_ rfl) (by omega) (fun x q1 q2 => ay_ q1) (.inr (Nat.le_refl _)) (by simp)
   exact hk _ _ H.length (ts.take i ++ ⟨cs, ds, f⟩ :: ts.drop i) (by simp) (fun x q1 q2 => ay_ q1) hs (.inr ⟨by rw [hlen], hlen.symm⟩) (hdat _ htk) (hft hsub (.inr (Nat.le_refl _)))
theorem xu_ {lo hi l n E sz : Nat} {H : List Row} {ds es : List (List AV)} (h : aA_ lo hi H (.own l n) (.list 0 sz ds)) (hr : H[l]? = some ⟨.ty E, sz, es⟩) (hhi : hi ≤ H.length) (hd : ∀ d ∈ ds, d.length = sz ∧ ∀ r ∈ d, r.cell = true) :
 ∃ ts : List Tr, ts.map Tr.c = es ∧ ts.map Tr.d = ds ∧ bG_ lo H E sz l ts.length ts ∧ n = ts.length ∧ ∀ y ∈ b7_ l ts, y < hi := by
 obtain ⟨k, fs, h1, h2, h3⟩ := h
 cases k with
 | zero => exact h1.elim
 | succ k =>
  obtain ⟨row, es1, f, q1, q2, q3, q4, rfl⟩ := h1
  rw [hr] at q1
  obtain rfl := Option.some.inj q1
  simp only [AV.list.injEq, true_and] at q4
  subst q4
  obtain ⟨ts, r1, r2, rfl, r4⟩ := a0_.trs q3
  have hl : n = ts.length := by rw [← q2, ← r1]; simp
  refine ⟨ts, r1, r2, ⟨by rw [hr, r1], Nat.le_refl _, fun t ht => ?_, ⟨k, r4⟩, h2, fun y hy => ?_⟩, hl, fun y hy => (h3 y hy).2⟩
  ·obtain ⟨p1, p2⟩ := hd t.d (by rw [← r2]; exact List.mem_map.2 ⟨t, ht, rfl⟩)
   obtain ⟨p3, p4⟩ := (r4 t ht).cells_of p2
   exact ⟨p3.trans p1, p4⟩
  ·have := h3 y hy; omega
structure TB2 (L lo : Nat) (H : List Row) (l m : Nat) (ts : List Tr) : Prop where
 box : ∃ a, H[L]? = some ⟨.ty 30, 1, [[a]]⟩ ∧ Sl a l m ts
 at' : bG_ lo H 112 3 l m ts
 out : L ∉ b7_ l ts
 lt : lo ≤ L
structure d5_ (L lo : Nat) (H : List Row) (x : ae_) : Prop where
 out : ∃ (l m : Nat) (ts : List Tr), TB2 L lo H l m ts ∧ (ts.take m).map Tr.d = x.Nodes.map ab_.cells
theorem xb_ {ts : List Tr} {m : Nat} {ns : List ab_} (hle : m ≤ ts.length) (h : (ts.take m).map Tr.d = ns.map ab_.cells) : m = ns.length := by
 have := congrArg List.length h
 simp only [List.length_map, List.length_take] at this
 omega
section
variable {L lo : Nat} {H H' : List Row} {x : ae_}
theorem TB2.lL {l m : Nat} {ts : List Tr} (b : TB2 L lo H l m ts) : L < H.length := by
 obtain ⟨a, o, _⟩ := b.box
 exact (List.getElem?_eq_some_iff.1 o).1
theorem TB2.keep {l m : Nat} {ts : List Tr} (b : TB2 L lo H l m ts) (hk : ∀ y, lo ≤ y → y < H.length → H'[y]? = H[y]?) (hl : H.length ≤ H'.length) : TB2 L lo H' l m ts := by
 have hL := b.lL
 obtain ⟨a, o, hS⟩ := b.box
 exact ⟨⟨a, (hk L b.lt hL).trans o, hS⟩, b.at'.keep (fun y hy => hk y (b.at'.lows y hy).1 (b.at'.lows y hy).2) hl, b.out, b.lt⟩
theorem d5_.keep (B : d5_ L lo H x) (hk : ∀ y, lo ≤ y → y < H.length → H'[y]? = H[y]?) (hl : H.length ≤ H'.length) : d5_ L lo H' x := by
 obtain ⟨l, m, ts, b, d⟩ := B
 exact ⟨l, m, ts, b.keep hk hl, d⟩
theorem d5_.low (B : d5_ L lo H x) : lo ≤ L ∧ L < H.length := by
 obtain ⟨l, m, ts, b, d⟩ := B
 exact ⟨b.lt, b.lL⟩
theorem TB2.more {l m : Nat} {ts : List Tr} (b : TB2 L lo H l m ts) (h : aM_ H H') : TB2 L lo H' l m ts := b.keep (fun y _ q => h.kept y q) h.len
theorem d5_.more (B : d5_ L lo H x) (h : aM_ H H') : d5_ L lo H' x := B.keep (fun y _ q => h.kept y q) h.len
theorem d5_.arg (B : d5_ L lo H x) : ∃ a, H[L]? = some ⟨.ty 30, 1, [[a]]⟩ ∧ a.cell = true ∧ aA_ lo H.length H (.agg [a]) (.agg (ae_.cells x)) := by
 obtain ⟨l, m, ts, b, d⟩ := B
 obtain ⟨a, h1, h2⟩ := b.box
 have h3 := b.at'.freshS h2
 rw [d] at h3
 have := b.at'.lows l List.mem_cons_self
 exact ⟨a, h1, h2.cell, aA_.agg (aw_.cons h3 (aw_.nil _ _ _) ⟨by omega, Nat.le_refl _⟩)⟩
theorem d5_.of {l n hi : Nat} {es : List (List AV)} (hL : H[L]? = some ⟨.ty 30, 1, [[.own l n]]⟩) (hlt : lo ≤ L) (hhi : hi ≤ L) (hF : aA_ lo hi H (.agg [.own l n]) (.agg (ae_.cells x))) (hr : H[l]? = some ⟨.ty 112, 3, es⟩) : d5_ L lo H x := by
 have hL2 := (List.getElem?_eq_some_iff.1 hL).1
 have h1 : aA_ lo hi H (.own l n) (.list 0 3 (x.Nodes.map ab_.cells)) := hF.unagg.head
 obtain ⟨ts, e1, e2, s, e3, e4⟩ := xu_ h1 hr (by omega) (fun d hd => by
  obtain ⟨a, _, q⟩ := List.mem_map.1 hd; subst q
  refine ⟨rfl, fun r hr => ?_⟩
  simp only [ab_.cells, List.mem_cons, List.not_mem_nil, or_false] at hr
  rcases hr with rfl | rfl | rfl <;> rfl)
 subst e3
 exact ⟨l, ts.length, ts, ⟨⟨_, hL, .inr ⟨rfl, rfl⟩⟩, s, fun q => by have := e4 L q; omega, hlt⟩, by rw [List.take_length]; exact e2⟩
theorem xD_ {l m : Nat} {ts : List Tr} (s : bG_ lo H 112 3 l m ts) (hd : (ts.take m).map Tr.d = x.Nodes.map ab_.cells) {k : Nat} (hk : k < m) (hkt : k < ts.length) (hkx : k < x.Nodes.length) :
 ∃ b, ts[k].c = [.val (.string x.Nodes[k].Name), b, .val (.string x.Nodes[k].Value)] ∧ ts[k].d = ab_.cells x.Nodes[k] ∧ b.cell = true := by
 obtain ⟨kk, htree⟩ := s.tree
 have ht := htree ts[k] (List.getElem_mem hkt)
 have hdd : ts[k].d = ab_.cells x.Nodes[k] := by
  have := congrArg (fun z => z[k]?) hd
  simp only [List.getElem?_map, List.getElem?_take, if_pos hk, List.getElem?_eq_getElem hkt, List.getElem?_eq_getElem hkx, Option.map_some, Option.some.injEq] at this
  exact this
 have ec : ab_.cells x.Nodes[k] = [.val (.string x.Nodes[k].Name), .list 0 1 (x.Nodes[k].Subs.map ao_), .val (.string x.Nodes[k].Value)] := rfl
 rw [hdd, ec] at ht
 obtain ⟨c1, e1, ht⟩ := ht.inv_val
 obtain ⟨c2, c3, g, g', e2, e3, ho, ht⟩ := ht.inv_cons
 obtain ⟨c4, e4, ht⟩ := ht.inv_val
 obtain ⟨e5, e6⟩ := ht.inv_nil
 subst e5 e6 e4 e2
 exact ⟨c2, e1, hdd, ho.cell_list⟩
end
def Bc_ : LC :=
 .seq (.ops [.s 2 (.mov (.const (.string ⟨#[]⟩)))]) (.seq (.seq (.ops [.m 3 0, .c1 4 162 3, .nt 5 4]) (.cond (.tmp 5) (.seq (.ops [.s 2 (.mov (.const (.string ⟨#[]⟩)))]) .ret) .skip)) (.seq (.ops [.m 6 0, .c1 7 163 6, .m
 2 7]) .ret))
def vz_ : LF := ⟨1, 8, Bc_, [.tmp 2]⟩
theorem yc_ : ar_ Tryz.prog Tryz.f132 vz_ := ah_
theorem lQ_ (xs : List ByteArray) (hx : xs.length ≤ 1048576) (h : List Row) : aa_ Tryz.prog 132 [.list 0 1 (xs.map ao_)] h (.val (.string (txt (iB_ xs)))) := by
 refine ai_ mixed Tryz.func132 yc_ rfl rfl ?_ h
 simp (disch := omega) only [vz_, Bc_, go_sem, reduceCtorEq, ↓reduceIte]
 repeat' (first
  | exact af_ _ _
  | (refine bk_ ?_; simp [iB_, *]; done)
  | simp (disch := omega) only [go_sem, reduceCtorEq, ↓reduceIte]
  | (refine aa_.call (dT_ _ hx _) ?_)
  | (refine aa_.q (dT_ _ hx _) ?_)
  | (refine aa_.call (by_ _ hx _) ?_)
  | (refine aa_.q (by_ _ hx _) ?_)
  | (refine aa_.call (gx_ _ (by assumption) _) ?_)
  | (refine aa_.q (gx_ _ (by assumption) _) ?_)
  | ((first | (apply aQ_; assumption) | (apply aR_; assumption) | (apply a2_; assumption) | (apply a1_; assumption)); intro hb; try simp only [hb])
  | ((first | (apply aF_; assumption) | (apply aD_; assumption) | (apply aK_; assumption) | (apply aJ_; assumption)); intro hb; try simp only [hb])
  | ((first | apply az_ | apply aC_ | apply ak_ | apply am_) <;> intro hb <;> (try simp only [hb]) <;> (first | have hp := aT_ hb | have hp := aV_ hb | have hp := aU_ hb | have hp := aW_ hb | skip)))
def gg_ (s : List ByteArray) : Bool := decide (0 < (s.length : Int)) && decide ((s.length : Int) ≤ 4) && a7_ (bE_ s) && (decide (dI_ s = txt []) || bA_ (dI_ s))
def uO_ : LC :=
 .seq (.ops [.s 2 (.mov (.const (.bool false)))]) (.seq (.ops [.m 4 0, .ll 5 4, .m 3 5]) (.seq (.ops [.m 6 3, .bk 7 .gtr false 6 0, .m 8 7, .g 9 8 true (.mov (.tmp 3)), .g 10 8 true (.bin .leq false (.tmp 9) (.const (.int
 .i64 4))), .pf 11 8 10, .m 12 11, .g 13 12 true (.mov (.tmp 0)), .g 14 12 true (.mov (.tmp 3)), .g 15 12 true (.bin .sub false (.tmp 14) (.const (.int .i64 1))), .g 16 12 true (.sliceSl 1 (.tmp 13) none (some (.tmp
 15))), .g 17 12 true (.call 125 [.tmp 16]), .pf 18 12 17, .m 19 18, .g 20 19 true (.mov (.tmp 0)), .g 21 19 true (.mov (.tmp 3)), .g 22 19 true (.bin .sub false (.tmp 21) (.const (.int .i64 1))), .g 23 19 true
 (.indexAddr 1 (.tmp 20) (.tmp 22)), .g 24 19 true (.load none (.tmp 23)), .g 25 19 true (.bin .eql false (.tmp 24) (.const (.string ⟨#[]⟩))), .g 26 19 true (.mov (.tmp 25)), .g 27 26 false (.mov (.tmp 0)), .g 28 26 false
 (.mov (.tmp 3)), .g 29 26 false (.bin .sub false (.tmp 28) (.const (.int .i64 1))), .g 30 26 false (.indexAddr 1 (.tmp 27) (.tmp 29)), .g 31 26 false (.load none (.tmp 30)), .g 32 26 false (.call 123 [.tmp 31]), .g 33 19
 true (.pick (.tmp 26) (.const (.bool true)) (.tmp 32)), .pf 34 19 33, .m 2 34]) .ret))
def qU_ : LF := ⟨1, 35, uO_, [.tmp 2]⟩
theorem A8_ : ar_ Tryz.prog Tryz.f167 qU_ := ah_
theorem hy_ (s : List ByteArray) (hs : s.length ≤ 1048576) (h : List Row) : aa_ Tryz.prog 167 [.list 0 1 (s.map ao_)] h (.val (.bool (gg_ s))) := by
 refine ai_ mixed Tryz.func167 A8_ rfl rfl ?_ h
 by_cases h0 : 0 < s.length
 case neg =>
  have h0' : ((0 : Int) < (s.length : Int)) = False := eq_false (by omega)
  simp (disch := omega) only [qU_, uO_, h0', go_sem, Nat.reduceEqDiff, reduceCtorEq, ↓reduceIte]
  exact ad_ (by simp [gg_, h0])
 have h0' : ((0 : Int) < (s.length : Int)) = True := eq_true (by omega)
 have hfr : s.take (s.length - 1) = bE_ s := rfl
 have hfl : (bE_ s).length ≤ 1048576 := by rw [bE_, List.length_take]; omega
 have hn1 : (s.length : Int) - 1 = ((s.length - 1 : Nat) : Int) := by omega
 have hlt : s.length - 1 < s.length := by omega
 have hle : s.length - 1 ≤ s.length := by omega
 simp (disch := omega) only [qU_, uO_, h0', go_sem, Nat.reduceEqDiff, reduceCtorEq, ↓reduceIte]
 repeat' (first
  | exact af_ _ _
  | (refine ad_ ?_; simp only [gg_, *, Bool.true_and, Bool.and_false, Bool.false_and, Bool.true_or, Bool.false_or, decide_true, decide_false, Bool.and_self]; done)
  | (refine ad_ ?_; simp [gg_, *]; done)
  | simp (disch := omega) only [hn1, hle, eR_, hfr, f3_, ao_, br_, go_sem, Nat.reduceEqDiff, reduceCtorEq, ↓reduceIte]
  | (refine aa_.call (by_ _ hfl _) ?_)
  | (refine aa_.q (by_ _ hfl _) ?_)
  | (refine aa_.call (dN_ _ _) ?_)
  | (refine aa_.q (dN_ _ _) ?_)
  | ((first | (apply aQ_; assumption) | (apply aR_; assumption) | (apply a2_; assumption) | (apply a1_; assumption)); intro hb; try simp only [hb])
  | ((first | (apply aF_; assumption) | (apply aD_; assumption) | (apply aK_; assumption) | (apply aJ_; assumption)); intro hb; try simp only [hb])
  | ((first | apply az_ | apply aC_ | apply ak_ | apply am_) <;> intro hb <;> (try simp only [hb]) <;> (first | have hp := aT_ hb | have hp := aV_ hb | have hp := aU_ hb | have hp := aW_ hb | skip)))
def zo_ : LC :=
 .seq (.ops [.s 4 (.box 30 (.tmp 0)), .s 8 (.mov (.const (.string ⟨#[]⟩)))]) (.seq (.seq (.ops [.ld 9 1 4, .c1 10 41 9, .nt 11 10, .m 12 11, .g 13 12 false (.mov (.tmp 1)), .g 14 12 false (.call 158 [.tmp 13]), .g 15 12
 false (.un .not (.tmp 14)), .pt 16 12 15, .m 17 16, .g 18 17 false (.mov (.tmp 2)), .g 19 17 false (.call 167 [.tmp 18]), .g 20 17 false (.un .not (.tmp 19)), .pt 21 17 20]) (.cond (.tmp 21) (.seq (.ops [.s 8 (.mov
 (.const (.string ⟨#[]⟩)))]) .ret) .skip)) (.seq (.ops [.ld 22 1 4, .m 23 1, .m 24 2, .m 25 3, .s 26 (.call 168 [.tmp 22, .tmp 23, .tmp 24, .tmp 25]), .m 8 26]) .ret))
def wt_ : LF := ⟨4, 27, zo_, [.tmp 8]⟩
theorem BN_ : ar_ Tryz.prog Tryz.f130 wt_ := ah_
theorem mw_ (x : ae_) (n : ByteArray) (s : List ByteArray) (back : Bool) (hx : ae_.sz x ≤ 1048576) (hn : n.size ≤ 1048576) (hs : aq_ ByteArray.size s ≤ 1048576) (ht : aE_ x = true) (h1 : bC_ n = true) (h2 : gg_ s = true) (h0 : 0 < s.length) (h : List Row) : aa_ Tryz.prog 130 [.agg (ae_.cells x), .val (.string n), .list 0 1 (s.map ao_), .val (.bool back)] h (.val (.string (fu_ x n s back))) := by
 refine ai_ mixed Tryz.func130 BN_ rfl rfl ?_ h
 simp (disch := omega) only [wt_, zo_, ae_.cells, go_sem, Nat.reduceEqDiff, ↓reduceIte]
 repeat' (first
  | exact af_ _ _
  | simp (disch := omega) only [ht, h1, h2, go_sem, Nat.reduceEqDiff, ↓reduceIte]
  | (refine aa_.call (show aa_ Tryz.prog 41 [.agg [.list 0 3 (x.Nodes.map ab_.cells)]] _ _ from cj_ x hx _) ?_)
  | (refine aa_.q (show aa_ Tryz.prog 41 [.agg [.list 0 3 (x.Nodes.map ab_.cells)]] _ _ from cj_ x hx _) ?_)
  | (refine aa_.call (bx_ _ hn _) ?_)
  | (refine aa_.q (bx_ _ hn _) ?_)
  | (refine aa_.call (hy_ _ (at_ hs) _) ?_)
  | (refine aa_.q (hy_ _ (at_ hs) _) ?_)
  | (refine aa_.call (show aa_ Tryz.prog 168 [.agg [.list 0 3 (x.Nodes.map ab_.cells)], .val (.string n), .list 0 1 (s.map ao_), .val (.bool back)] _ _ from hU_ x n s back hx hs h0 _) ?_)
  | (refine aa_.q (show aa_ Tryz.prog 168 [.agg [.list 0 3 (x.Nodes.map ab_.cells)], .val (.string n), .list 0 1 (s.map ao_), .val (.bool back)] _ _ from hU_ x n s back hx hs h0 _) ?_)
  | ((first | (apply aQ_; assumption) | (apply aR_; assumption) | (apply a2_; assumption) | (apply a1_; assumption)); intro hb; try simp only [hb])
  | ((first | (apply aF_; assumption) | (apply aD_; assumption) | (apply aK_; assumption) | (apply aJ_; assumption)); intro hb; try simp only [hb])
  | ((first | apply az_ | apply aC_ | apply ak_ | apply am_) <;> intro hb <;> (try simp only [hb]) <;> (first | have hp := aT_ hb | have hp := aV_ hb | have hp := aU_ hb | have hp := aW_ hb | skip)))
def yC_ : LC :=
 .seq (.ops [.s 1 (.box 79 (.tmp 0)), .s 2 (.alloc 79 (.agg #[.int .i64 0, .string ⟨#[]⟩, .slice none 0 0, .string ⟨#[]⟩, .int .i64 0]))]) (.seq (.ops [.fa 3 2 1, .ln 4 3, .c1 5 144 4, .fa 6 2 1, .st 1 6 5]) (.seq (.ops
 [.ld 7 5 1, .st 5 2 7]) .ret))
def vN_ : LF := ⟨1, 8, yC_, [.cell 2 (some 5)]⟩
theorem B8_ : ar_ Tryz.prog Tryz.f148 vN_ := ah_
def Cn_ : LC :=
 .seq (.ops [.s 1 (.box 79 (.tmp 0)), .s 2 (.alloc 79 (.agg #[.int .i64 0, .string ⟨#[]⟩, .slice none 0 0, .string ⟨#[]⟩, .int .i64 0]))]) (.seq (.ops [.fa 3 2 1, .ln 4 3, .c1 5 85 4, .fa 6 2 1, .st 1 6 5]) (.seq (.ops
 [.ld 7 5 1, .st 5 2 7]) .ret))
def wp_ : LF := ⟨1, 8, Cn_, [.cell 2 (some 5)]⟩
theorem ym_ : ar_ Tryz.prog Tryz.f127 wp_ := ah_
theorem i5_ (x : ac_) (hx : ac_.sz x ≤ 1048576) : aS_ Tryz.prog 148 [.agg (ac_.cells x)] (.agg (ac_.cells x)) (fun a => ∃ l, a = .agg [.val (.int .i64 x.Kind), .val (.string x.Name), .own l x.Subs.length, .val (.string x.Value), .val (.int .i64 x.N)]) := by
 refine bW_ mixed Tryz.func148 B8_ rfl (fun h0 => ?_)
 have h2 := at_ (ac_.sz_Subs hx)
 simp (disch := omega) only [vN_, yC_, ac_.cells, go_sem, Nat.reduceEqDiff, Nat.reduceAdd, ↓reduceIte]
 refine bU_ (bN_ x.Subs h2) (fun av H1 m1 F1 q1 => ?_)
 obtain ⟨l, rfl⟩ := q1
 have p0 := m1.at (i := h0.length) (by rw [cL_]; rfl)
 have p1 := m1.at (i := h0.length + 1) (by rw [b8_]; rfl)
 have l1 := m1.len
 simp only [la_, lc_, ln_] at l1
 have s0 := fun r => hB_ p0 r
 have z1 := fun r : Row => (List.getElem?_set_ne (l := H1) (a := r) (show h0.length ≠ h0.length + 1 by omega)).trans p1
 have s1 := fun r r' => hB_ (z1 r) r'
 simp (disch := omega) only [p0, s0, z1, s1, go_sem, Nat.reduceEqDiff, Nat.reduceAdd, Nat.reduceLeDiff, ↓reduceIte]
 refine ⟨⟨(((aM_.app h0 _).trans m1).set (Nat.le_refl _)).set (by omega), aA_.agg (aw_.val _ (aw_.val _ (aw_.cons (mid := H1.length) ((F1.tree.keep (fun y q1 q2 => ?_)).widen (by simp) (Nat.le_refl _)) (aw_.val _ (aw_.val _ (aw_.nil _ _ _))) ⟨by omega, by simp⟩)))⟩, _, rfl⟩
 simp only [la_, lc_, ln_] at q1
 rw [List.getElem?_set_ne (by omega), List.getElem?_set_ne (by omega)]
theorem kT_ (x : ac_) (hx : ac_.sz x ≤ 1048576) : aS_ Tryz.prog 127 [.agg (ac_.cells x)] (.agg (ac_.cells x)) (fun a => ∃ l, a = .agg [.val (.int .i64 x.Kind), .val (.string x.Name), .own l x.Subs.length, .val (.string x.Value), .val (.int .i64 x.N)]) := by
 refine bW_ mixed Tryz.func127 ym_ rfl (fun h0 => ?_)
 have h2 := at_ (ac_.sz_Subs hx)
 simp (disch := omega) only [wp_, Cn_, ac_.cells, go_sem, Nat.reduceEqDiff, Nat.reduceAdd, ↓reduceIte]
 refine bU_ (e3_ x.Subs h2) (fun av H1 m1 F1 q1 => ?_)
 obtain ⟨l, rfl⟩ := q1
 have p0 := m1.at (i := h0.length) (by rw [cL_]; rfl)
 have p1 := m1.at (i := h0.length + 1) (by rw [b8_]; rfl)
 have l1 := m1.len
 simp only [la_, lc_, ln_] at l1
 have s0 := fun r => hB_ p0 r
 have z1 := fun r : Row => (List.getElem?_set_ne (l := H1) (a := r) (show h0.length ≠ h0.length + 1 by omega)).trans p1
 have s1 := fun r r' => hB_ (z1 r) r'
 simp (disch := omega) only [p0, s0, z1, s1, go_sem, Nat.reduceEqDiff, Nat.reduceAdd, Nat.reduceLeDiff, ↓reduceIte]
 refine ⟨⟨(((aM_.app h0 _).trans m1).set (Nat.le_refl _)).set (by omega), aA_.agg (aw_.val _ (aw_.val _ (aw_.cons (mid := H1.length) ((F1.tree.keep (fun y q1 q2 => ?_)).widen (by simp) (Nat.le_refl _)) (aw_.val _ (aw_.val _ (aw_.nil _ _ _))) ⟨by omega, by simp⟩)))⟩, _, rfl⟩
 simp only [la_, lc_, ln_] at q1
 rw [List.getElem?_set_ne (by omega), List.getElem?_set_ne (by omega)]
def iZ_ (x : ae_) (e : ac_) : ac_ := if (cA_ e.Name e.Subs x.Nodes).2 = true then { e with N := 1, Value := txt (iB_ (cA_ e.Name e.Subs x.Nodes).1) } else { e with N := 0, Value := txt [] }
def bc_ (x : ae_) (e : ac_) : ac_ :=
 if e.Kind = 1 then { e with Value := (e2_ x e.Name e.Subs).1, N := hl_ x e.Name e.Subs }
 else if e.Kind = 4 then { e with N := hl_ x e.Name e.Subs }
 else if e.Kind = 5 then { e with Value := fu_ x e.Name e.Subs (decide (e.N < 0)) }
 else iZ_ x e
abbrev gD_ (e : ac_) (a : AV) : Prop := ∃ l v k, a = .agg [.val (.int .i64 e.Kind), .val (.string e.Name), .own l e.Subs.length, .val (.string v), .val (.int .i64 k)]
theorem gM_ {e : ac_} (h : bi_ e = true) (hk : ¬ e.Kind = 5) : cC_ e.Name e.Subs = true := by
 unfold bi_ at h
 rw [if_neg hk] at h
 simp only [Bool.and_eq_true] at h
 simp [cC_, h.1.1, h.2]
theorem iz_ {e : ac_} (h : bi_ e = true) (hk : e.Kind = 5) : bC_ e.Name = true ∧ gg_ e.Subs = true ∧ 0 < e.Subs.length := by
 unfold bi_ at h
 rw [if_pos hk] at h
 simp only [Bool.and_eq_true, decide_eq_true_eq] at h
 obtain ⟨⟨h1, _⟩, h2, h3⟩ := h
 unfold ge_ at h3
 simp only [Bool.and_eq_true, Bool.or_eq_true, decide_eq_true_eq] at h3
 obtain ⟨h4, h5⟩ := h3
 have h0 : 0 < e.Subs.length := by omega
 refine ⟨h1, ?_, h0⟩
 simp only [gg_, Bool.and_eq_true, Bool.or_eq_true, decide_eq_true_eq]
 rcases h5 with h5 | ⟨h5, h6⟩
 ·simp only [a7_, Bool.and_eq_true, decide_eq_true_eq, List.all_eq_true] at h5 ⊢
  refine ⟨⟨⟨h4, h2⟩, ?_, fun x hx => h5.2 x (List.mem_of_mem_take hx)⟩, .inr (h5.2 _ ?_)⟩
  ·rw [bE_, List.length_take]; omega
  ·rw [← f3_ e.Subs (by omega)]; exact List.getElem_mem _
 ·exact ⟨⟨⟨h4, h2⟩, h6⟩, .inl h5⟩
theorem ny_ (n : ByteArray) (s : List ByteArray) {x : ae_} (hx : ae_.sz x ≤ 1048576) : (cA_ n s x.Nodes).1.length ≤ 1048576 := by
 have hz := ae_.sz_Nodes hx
 have hm : ∀ a ∈ x.Nodes, ab_.sz a ≤ 1048576 := fun a ha => bt_ hz ha
 clear hz hx
 generalize x.Nodes = ns at hm ⊢
 induction ns with
 | nil => simp [cA_]
 | cons a r ih =>
  unfold cA_
  split
  ·exact at_ (ab_.sz_Subs (hm a (by simp)))
  ·exact ih fun b hb => hm b (by simp [hb])
theorem sA_ {x : ae_} {n : ByteArray} {s : List ByteArray} (h : (e2_ x n s).2 = false) : (e2_ x n s).1 = txt [] := by
 unfold e2_ at h ⊢
 split at h
 ·split at h
  ·cases h
  ·rename_i q1 q2; rw [if_neg q2]
 ·rfl
def c98 : LC :=
 .seq (.ops [.s 2 (.box 30 (.tmp 0)), .s 3 (.box 79 (.tmp 1)), .s 4 (.alloc 79 (.agg #[.int .i64 0, .string ⟨#[]⟩, .slice none 0 0, .string ⟨#[]⟩, .int .i64 0]))]) (.seq (.ops [.ld 8 5 3, .c1 9 148 8, .s 5 (.alloc 79
 (.agg #[.int .i64 0, .string ⟨#[]⟩, .slice none 0 0, .string ⟨#[]⟩, .int .i64 0])), .st 5 5 9]) (.seq (.seq (.ops [.fa 10 0 3, .ln 11 10]) (.block 0 (.seq (.ops [.bk 13 .eql false 11 1, .m 12 13]) (.cond (.tmp 12) (.seq
 (.ops [.ld 15 1 2, .fa 16 1 3, .ln 17 16, .fa 18 2 3, .ln 19 18, .c3 20 149 15 17 19, .m 14 20, .ex 21 14 0, .ex 22 14 1, .fa 23 3 5, .st 1 23 21]) (.ops [.ld 24 1 2, .fa 25 1 3, .ln 26 25, .fa 27 2 3, .ln 28 27, .c3 29
 150 24 26 28, .fa 30 4 5, .st 1 30 29])) (.seq (.ops [.bk 32 .eql false 11 4, .m 31 32]) (.cond (.tmp 31) (.ops [.ld 33 1 2, .fa 34 1 3, .ln 35 34, .fa 36 2 3, .ln 37 36, .c3 38 150 33 35 37, .fa 39 4 5, .st 1 39 38])
 (.seq (.ops [.bk 41 .eql false 11 5, .m 40 41]) (.cond (.tmp 40) (.ops [.ld 42 1 2, .fa 43 1 3, .ln 44 43, .fa 45 2 3, .ln 46 45, .fa 47 4 3, .ln 48 47, .bk 49 .lss false 48 0, .s 50 (.call 151 [.tmp 42, .tmp 44, .tmp
 46, .tmp 49]), .fa 51 3 5, .st 1 51 50]) (.seq (.ops [.bk 53 .eql false 11 6, .m 52 53]) (.cond (.tmp 52) (.seq (.ops [.fa 54 4 5, .z (.store 1 (.tmp 54) (.const (.int .i64 0))), .fa 55 3 5, .z (.store 1 (.tmp 55)
 (.const (.string ⟨#[]⟩)))]) (.seq (.ops [.ld 57 1 2, .fa 58 1 3, .ln 59 58, .fa 60 2 3, .ln 61 60, .c3 62 152 57 59 61, .m 56 62, .ex 63 56 0, .ex 64 56 1, .m 6 63, .m 7 64]) (.seq (.ops [.m 65 7]) (.cond (.tmp 65) (.ops
 [.m 66 6, .c1 67 153 66, .fa 68 4 5, .z (.store 1 (.tmp 68) (.const (.int .i64 1))), .fa 69 3 5, .st 1 69 67]) .skip)))) .skip)))))))))) (.seq (.ops [.ld 70 5 5, .st 5 4 70]) .ret)))
def Bm_ : LF := ⟨2, 71, c98, [.cell 4 (some 5)]⟩
theorem CO_ : ar_ Tryz.prog Tryz.f98 Bm_ := ah_
theorem iY_ (x : ae_) (e : ac_) (hx : ae_.sz x ≤ 1048576) (he : ac_.sz e ≤ 1048576) (ht : aE_ x = true) (hn : bi_ e = true) (hr : bq_ e = true) : aS_ Tryz.prog 98 [.agg (ae_.cells x), .agg (ac_.cells e)] (.agg (ac_.cells (bc_ x e))) (gD_ e) := by
 refine bW_ mixed Tryz.func98 CO_ rfl (fun h0 => ?_)
 have hs := ac_.sz_Subs he
 have hsl := at_ hs
 have hnm := ac_.sz_Name he
 simp (disch := omega) only [Bm_, c98, ae_.cells, ac_.cells, go_sem, Nat.reduceEqDiff, Nat.reduceAdd, ↓reduceIte]
 refine bU_ (i5_ e he) (fun av H1 m1 F1 q1 => ?_)
 obtain ⟨l, rfl⟩ := q1
 have p0 := m1.at (i := h0.length) (by rw [cL_]; rfl)
 have p1 := m1.at (i := h0.length + 1) (by rw [b8_]; rfl)
 have p2 := m1.at (i := h0.length + 2) (by rw [b8_]; rfl)
 have l1 := m1.len
 simp only [la_, lc_, ln_] at l1
 have m0 := (aM_.app h0 _).trans m1
 have hR : bc_ x e = bc_ x e := rfl
 have fin : ∀ (H' : List Row) (v : ByteArray) (k : Int), v = (bc_ x e).Value → k = (bc_ x e).N → e.Kind = (bc_ x e).Kind → e.Name = (bc_ x e).Name → e.Subs = (bc_ x e).Subs → H1.length ≤ H'.length → (∀ y, h0.length + 3 ≤ y → y < H1.length → H'[y]? = H1[y]?) → aM_ h0 H' →
  Res h0 H' (.agg [.val (.int .i64 e.Kind), .val (.string e.Name), .own l e.Subs.length, .val (.string v), .val (.int .i64 k)]) (.agg (ac_.cells (bc_ x e))) ∧ gD_ e (.agg [.val (.int .i64 e.Kind), .val (.string e.Name), .own l e.Subs.length, .val (.string v), .val (.int .i64 k)]) := by
  intro H' v k e1 e2 e3 e4 e5 hl hk hm
  refine ⟨⟨hm, ?_⟩, l, v, k, rfl⟩
  have hc : ac_.cells (bc_ x e) = [.val (.int .i64 e.Kind), .val (.string e.Name), .list 0 1 (e.Subs.map ao_), .val (.string v), .val (.int .i64 k)] := by
   rw [ac_.cells, ← e1, ← e2, ← e3, ← e4, ← e5]
  rw [hc]
  have F2 := F1.tree.unagg.rest.rest.head
  refine aA_.agg (aw_.val _ (aw_.val _ (aw_.cons (mid := H1.length) ((F2.keep (fun y q1 q2 => hk y ?_ q2)).widen (by simp) (Nat.le_refl _)) (aw_.val _ (aw_.val _ (aw_.nil _ _ _))) ⟨by omega, hl⟩)))
  simp only [la_, lc_, ln_] at q1
  omega
 have fin2 : ∀ (H' : List Row) (v : ByteArray) (k : Int), { e with Value := v, N := k } = bc_ x e → H1.length ≤ H'.length → (∀ y, h0.length + 3 ≤ y → y < H1.length → H'[y]? = H1[y]?) → aM_ h0 H' →
  Res h0 H' (.agg [.val (.int .i64 e.Kind), .val (.string e.Name), .own l e.Subs.length, .val (.string v), .val (.int .i64 k)]) (.agg (ac_.cells (bc_ x e))) ∧ gD_ e (.agg [.val (.int .i64 e.Kind), .val (.string e.Name), .own l e.Subs.length, .val (.string v), .val (.int .i64 k)]) :=
  fun H' v k q => fin H' v k (by rw [← q]) (by rw [← q]) (by rw [← q]) (by rw [← q]) (by rw [← q])
 have hget : ∀ H, aa_ Tryz.prog 149 [.agg [.list 0 3 (x.Nodes.map ab_.cells)], .val (.string e.Name), .list 0 1 (e.Subs.map ao_)] H (kJ_ (e2_ x e.Name e.Subs)) := fun H => lN_ x e.Name e.Subs hx hs ht H
 have hdat : ∀ H, aa_ Tryz.prog 150 [.agg [.list 0 3 (x.Nodes.map ab_.cells)], .val (.string e.Name), .list 0 1 (e.Subs.map ao_)] H (.val (.int .i64 (hl_ x e.Name e.Subs))) := fun H => kY_ x e.Name e.Subs hx hsl H
 by_cases k1 : e.Kind = 1
 ·simp (disch := (first | omega | (simp only [ls_, la_, lc_, ln_]; first | done | omega))) only [aH_, ay_, aN_, ag_, go_sem, Nat.reduceEqDiff, Nat.reduceAdd, Nat.reduceLeDiff, ↓reduceIte, p0, p1, p2, k1, Int.reduceEq]
  refine aa_.call (hget _) ?_
  simp (disch := (first | omega | (simp only [ls_, la_, lc_, ln_]; first | done | omega))) only [ay_, aN_, go_sem, Nat.reduceEqDiff, Nat.reduceAdd, Nat.reduceLeDiff, ↓reduceIte, p0, p1, k1]
  refine aa_.call (hdat _) ?_
  simp (disch := (first | omega | (simp only [ls_, la_, lc_, ln_]; first | done | omega))) only [aH_, ay_, aN_, go_sem, Nat.reduceEqDiff, Nat.reduceAdd, ↓reduceIte, p2]
  rw [← k1]
  refine fin2 _ _ _ (by simp [bc_, k1]) (by simp) (fun y q1 q2 => by rw [au_ (by omega), ay_ (by omega)]) ((m0.add _).set (by omega))
 by_cases k4 : e.Kind = 4
 ·simp (disch := (first | omega | (simp only [ls_, la_, lc_, ln_]; first | done | omega))) only [aH_, ay_, aN_, ag_, go_sem, Nat.reduceEqDiff, Nat.reduceAdd, Nat.reduceLeDiff, ↓reduceIte, p0, p1, p2, k4, Int.reduceEq]
  refine aa_.call (hdat _) ?_
  simp (disch := (first | omega | (simp only [ls_, la_, lc_, ln_]; first | done | omega))) only [aH_, ay_, aN_, go_sem, Nat.reduceEqDiff, Nat.reduceAdd, ↓reduceIte, p2]
  rw [← k4]
  refine fin2 _ _ _ (by simp [bc_, k4]) (by simp) (fun y q1 q2 => by rw [au_ (by omega), ay_ (by omega)]) ((m0.add _).set (by omega))
 by_cases k5 : e.Kind = 5
 ·obtain ⟨_, _, hpos⟩ := iz_ hn k5
  simp (disch := (first | omega | (simp only [ls_, la_, lc_, ln_]; first | done | omega))) only [aH_, ay_, aN_, ag_, go_sem, Nat.reduceEqDiff, Nat.reduceAdd, Nat.reduceLeDiff, ↓reduceIte, p0, p1, p2, k5, Int.reduceEq]
  refine aa_.call (show aa_ Tryz.prog 151 [.agg [.list 0 3 (x.Nodes.map ab_.cells)], .val (.string e.Name), .list 0 1 (e.Subs.map ao_), .val (.bool _)] _ _ from kD_ x e.Name e.Subs _ hx hs hpos _) ?_
  simp (disch := (first | omega | (simp only [ls_, la_, lc_, ln_]; first | done | omega))) only [aH_, ay_, aN_, go_sem, Nat.reduceEqDiff, Nat.reduceAdd, Nat.reduceLeDiff, ↓reduceIte, p2]
  rw [← k5]
  refine fin2 _ _ _ (by simp [bc_, k5]) (by simp) (fun y q1 q2 => by rw [au_ (by omega), ay_ (by omega)]) ((m0.add _).set (by omega))
 have k6 : e.Kind = 6 := by
  simp only [bq_, Bool.or_eq_true, decide_eq_true_eq] at hr
  omega
 have hth := gM_ hn k5
 have hq : cW_ x e.Name e.Subs = cA_ e.Name e.Subs x.Nodes := by rw [cW_, ht, hth]; rfl
 have hqc : ∀ H, aa_ Tryz.prog 152 [.agg [.list 0 3 (x.Nodes.map ab_.cells)], .val (.string e.Name), .list 0 1 (e.Subs.map ao_)] H (jA_ (cA_ e.Name e.Subs x.Nodes)) := fun H => by
  have := (kH_ x e.Name e.Subs hx hnm hs).pure rfl H
  rwa [hq] at this
 have hqs := ny_ e.Name e.Subs hx
 simp (disch := (first | omega | (simp only [ls_, la_, lc_, ln_]; first | done | omega))) only [aH_, ay_, aN_, ag_, go_sem, Nat.reduceEqDiff, Nat.reduceAdd, Nat.reduceLeDiff, ↓reduceIte, p0, p1, p2, k6, Int.reduceEq]
 refine aa_.call (hqc _) ?_
 cases hb : (cA_ e.Name e.Subs x.Nodes).2
 ·simp (disch := (first | omega | (simp only [ls_, la_, lc_, ln_]; first | done | omega))) only [aH_, ay_, aN_, ag_, go_sem, Nat.reduceEqDiff, Nat.reduceAdd, ↓reduceIte, p2, hb]
  rw [← k6]
  refine fin2 _ _ _ (by simp [bc_, k6, iZ_, hb]) (by simp) (fun y q1 q2 => by rw [au_ (by omega), ay_ (by omega)]) ((m0.add _).set (by omega))
 ·simp (disch := (first | omega | (simp only [ls_, la_, lc_, ln_]; first | done | omega))) only [aH_, ay_, aN_, ag_, go_sem, Nat.reduceEqDiff, Nat.reduceAdd, ↓reduceIte, p2, hb]
  refine aa_.call (h1_ _ hqs _) ?_
  simp (disch := (first | omega | (simp only [ls_, la_, lc_, ln_]; first | done | omega))) only [aH_, ay_, aN_, go_sem, Nat.reduceEqDiff, Nat.reduceAdd, Nat.reduceLeDiff, ↓reduceIte, p2]
  rw [← k6]
  refine fin2 _ _ _ (by simp [bc_, k6, iZ_, hb]) (by simp) (fun y q1 q2 => by rw [au_ (by omega), ay_ (by omega)]) ((m0.add _).set (by omega))
def c83 : LC :=
 .seq (.ops [.s 2 (.box 30 (.tmp 0)), .s 3 (.box 79 (.tmp 1)), .s 4 (.alloc 79 (.agg #[.int .i64 0, .string ⟨#[]⟩, .slice none 0 0, .string ⟨#[]⟩, .int .i64 0]))]) (.seq (.ops [.ld 9 5 3, .c1 10 127 9, .st 5 3 10]) (.seq
 (.seq (.ops [.fa 11 0 3, .ln 12 11]) (.block 0 (.seq (.ops [.bk 30 .eql false 12 1, .m 29 30]) (.cond (.tmp 29) (.seq (.ops [.ld 32 1 2, .fa 33 1 3, .ln 34 33, .fa 35 2 3, .ln 36 35, .c3 37 128 32 34 36, .m 31 37, .ex 38
 31 0, .ex 39 31 1, .m 5 38, .m 6 39]) (.seq (.ops [.fa 40 3 3, .z (.store 1 (.tmp 40) (.const (.string ⟨#[]⟩)))]) (.seq (.seq (.ops [.m 41 6]) (.cond (.tmp 41) (.ops [.m 42 5, .fa 43 3 3, .st 1 43 42]) .skip)) (.ops [.ld
 44 1 2, .fa 45 1 3, .ln 46 45, .fa 47 2 3, .ln 48 47, .c3 49 129 44 46 48, .fa 50 4 3, .st 1 50 49])))) (.seq (.ops [.bk 52 .eql false 12 4, .m 51 52]) (.cond (.tmp 51) (.ops [.ld 53 1 2, .fa 54 1 3, .ln 55 54, .fa 56 2
 3, .ln 57 56, .c3 58 129 53 55 57, .fa 59 4 3, .st 1 59 58]) (.seq (.ops [.bk 61 .eql false 12 5, .m 60 61]) (.cond (.tmp 60) (.ops [.ld 62 1 2, .fa 63 1 3, .ln 64 63, .fa 65 2 3, .ln 66 65, .fa 67 4 3, .ln 68 67, .bk 69
 .lss false 68 0, .s 70 (.call 130 [.tmp 62, .tmp 64, .tmp 66, .tmp 69]), .fa 71 3 3, .st 1 71 70]) (.seq (.ops [.ld 14 1 2, .fa 15 1 3, .ln 16 15, .fa 17 2 3, .ln 18 17, .c3 19 131 14 16 18, .m 13 19, .ex 20 13 0, .ex 21
 13 1, .m 7 20, .m 8 21]) (.seq (.ops [.fa 22 4 3, .z (.store 1 (.tmp 22) (.const (.int .i64 0)))]) (.seq (.ops [.fa 23 3 3, .z (.store 1 (.tmp 23) (.const (.string ⟨#[]⟩)))]) (.seq (.ops [.m 24 8]) (.cond (.tmp 24) (.seq
 (.ops [.fa 25 4 3, .z (.store 1 (.tmp 25) (.const (.int .i64 1)))]) (.ops [.m 26 7, .c1 27 132 26, .fa 28 3 3, .st 1 28 27])) .skip))))))))))))) (.seq (.ops [.ld 72 5 3, .st 5 4 72]) .ret)))
def ye_ : LF := ⟨2, 73, c83, [.cell 4 (some 5)]⟩
theorem Cv_ : ar_ Tryz.prog Tryz.f83 ye_ := ah_
theorem j0_ (x : ae_) (e : ac_) (hx : ae_.sz x ≤ 1048576) (he : ac_.sz e ≤ 1048576) (ht : aE_ x = true) (hn : bi_ e = true) (hr : bq_ e = true) : aS_ Tryz.prog 83 [.agg (ae_.cells x), .agg (ac_.cells e)] (.agg (ac_.cells (bc_ x e))) (gD_ e) := by
 refine bW_ mixed Tryz.func83 Cv_ rfl (fun h0 => ?_)
 have hs := ac_.sz_Subs he
 have hsl := at_ hs
 have hnm := ac_.sz_Name he
 simp (disch := omega) only [ye_, c83, ae_.cells, ac_.cells, go_sem, Nat.reduceEqDiff, Nat.reduceAdd, ↓reduceIte]
 refine bU_ (kT_ e he) (fun av H1 m1 F1 q1 => ?_)
 obtain ⟨l, rfl⟩ := q1
 have p0 := m1.at (i := h0.length) (by rw [cL_]; rfl)
 have p1 := m1.at (i := h0.length + 1) (by rw [b8_]; rfl)
 have p2 := m1.at (i := h0.length + 2) (by rw [b8_]; rfl)
 have l1 := m1.len
 simp only [la_, lc_, ln_] at l1
 have m0 := (aM_.app h0 _).trans m1
 have F2 := F1.tree.unagg.rest.rest.head
 have harg : ∀ H' : List Row, (∀ y, h0.length + 3 ≤ y → y < H1.length → H'[y]? = H1[y]?) → cT_ H' (.own l e.Subs.length) (.list 0 1 (e.Subs.map ao_)) := fun H' hk => (F2.keep (fun y q1 q2 => hk y (by simp only [la_, lc_, ln_] at q1; omega) q2)).arg
 have fin : ∀ (H' : List Row) (v : ByteArray) (k : Int), { e with Value := v, N := k } = bc_ x e → H1.length ≤ H'.length → (∀ y, h0.length + 3 ≤ y → y < H1.length → H'[y]? = H1[y]?) → aM_ h0 H' →
  Res h0 H' (.agg [.val (.int .i64 e.Kind), .val (.string e.Name), .own l e.Subs.length, .val (.string v), .val (.int .i64 k)]) (.agg (ac_.cells (bc_ x e))) ∧ gD_ e (.agg [.val (.int .i64 e.Kind), .val (.string e.Name), .own l e.Subs.length, .val (.string v), .val (.int .i64 k)]) := by
  intro H' v k q hl hk hm
  refine ⟨⟨hm, ?_⟩, l, v, k, rfl⟩
  rw [← q]
  refine aA_.agg (aw_.val _ (aw_.val _ (aw_.cons (mid := H1.length) ((F2.keep (fun y q1 q2 => hk y ?_ q2)).widen (by simp) (Nat.le_refl _)) (aw_.val _ (aw_.val _ (aw_.nil _ _ _))) ⟨by omega, hl⟩)))
  simp only [la_, lc_, ln_] at q1
  omega
 have hargs : ∀ H' : List Row, (∀ y, h0.length + 3 ≤ y → y < H1.length → H'[y]? = H1[y]?) → ca_ H' [.agg [.list 0 3 (x.Nodes.map ab_.cells)], .val (.string e.Name), .own l e.Subs.length] [.agg [.list 0 3 (x.Nodes.map ab_.cells)], .val (.string e.Name), .list 0 1 (e.Subs.map ao_)] := fun H' hk =>
  .cons (.same rfl) (.cons (.same rfl) (.cons (harg H' hk) .nil))
 by_cases k5 : e.Kind = 5
 ·obtain ⟨hno, hlv, hpos⟩ := iz_ hn k5
  simp (disch := (first | omega | (simp only [ls_, la_, lc_, ln_]; first | done | omega))) only [au_, aH_, ag_, go_sem, Nat.reduceEqDiff, Nat.reduceAdd, ↓reduceIte, p0, p1, k5, Int.reduceEq]
  refine aa_.call (aa_.own (fun h => show aa_ Tryz.prog 130 [.agg [.list 0 3 (x.Nodes.map ab_.cells)], .val (.string e.Name), .list 0 1 (e.Subs.map ao_), .val (.bool _)] h _ from mw_ x e.Name e.Subs _ hx hnm hs ht hno hlv hpos h) (.cons (.same rfl) (.cons (.same rfl) (.cons (harg _ ?_) (.cons (.same rfl) .nil))))) ?_
  ·exact fun y q1 q2 => by rw [au_ (by omega)]
  simp (disch := (first | omega | (simp only [ls_, la_, lc_, ln_]; first | done | omega))) only [au_, aH_, go_sem, Nat.reduceEqDiff, Nat.reduceAdd, Nat.reduceLeDiff, ↓reduceIte, p2]
  rw [← k5]
  exact fin _ _ _ (by simp [bc_, k5]) (by simp) (fun y q1 q2 => by rw [au_ (by omega), au_ (by omega), au_ (by omega)]) (((m0.set (by omega)).set (by omega)).set (by omega))
 have hth := gM_ hn k5
 have hgv : lC_ x e.Name e.Subs = e2_ x e.Name e.Subs := by rw [lC_, ht, hth]; rfl
 have hdv : (if (aE_ x && cC_ e.Name e.Subs) = true then hl_ x e.Name e.Subs else 0) = hl_ x e.Name e.Subs := by rw [ht, hth]; rfl
 have hget : ∀ H', (∀ y, h0.length + 3 ≤ y → y < H1.length → H'[y]? = H1[y]?) → aa_ Tryz.prog 128 [.agg [.list 0 3 (x.Nodes.map ab_.cells)], .val (.string e.Name), .own l e.Subs.length] H' (kJ_ (e2_ x e.Name e.Subs)) := fun H' hk =>
  aa_.ownR rfl (fun h => by rw [← hgv]; exact mG_ x e.Name e.Subs hx hnm hs h) (hargs H' hk)
 have hdat : ∀ H', (∀ y, h0.length + 3 ≤ y → y < H1.length → H'[y]? = H1[y]?) → aa_ Tryz.prog 129 [.agg [.list 0 3 (x.Nodes.map ab_.cells)], .val (.string e.Name), .own l e.Subs.length] H' (.val (.int .i64 (hl_ x e.Name e.Subs))) := fun H' hk =>
  aa_.ownR rfl (fun h => by rw [← hdv]; exact mM_ x e.Name e.Subs hx hnm hsl h) (hargs H' hk)
 by_cases k1 : e.Kind = 1
 ·simp (disch := (first | omega | (simp only [ls_, la_, lc_, ln_]; first | done | omega))) only [au_, aH_, ag_, go_sem, Nat.reduceEqDiff, Nat.reduceAdd, ↓reduceIte, p0, p1, k1, Int.reduceEq]
  refine aa_.call (hget _ (fun y q1 q2 => by rw [au_ (by omega)])) ?_
  cases hb : (e2_ x e.Name e.Subs).2
  ·simp (disch := (first | omega | (simp only [ls_, la_, lc_, ln_]; first | done | omega))) only [au_, aH_, ag_, go_sem, Nat.reduceEqDiff, Nat.reduceAdd, Nat.reduceLeDiff, ↓reduceIte, p0, hb]
   refine aa_.call (hdat _ (fun y q1 q2 => by rw [au_ (by omega), au_ (by omega)])) ?_
   simp (disch := (first | omega | (simp only [ls_, la_, lc_, ln_]; first | done | omega))) only [au_, aH_, go_sem, Nat.reduceEqDiff, Nat.reduceAdd, ↓reduceIte, p2]
   rw [← k1]
   exact fin _ _ _ (by simp [bc_, k1, sA_ hb]) (by simp) (fun y q1 q2 => by rw [au_ (by omega), au_ (by omega), au_ (by omega), au_ (by omega)]) ((((m0.set (by omega)).set (by omega)).set (by omega)).set (by omega))
  ·simp (disch := (first | omega | (simp only [ls_, la_, lc_, ln_]; first | done | omega))) only [au_, aH_, ag_, go_sem, Nat.reduceEqDiff, Nat.reduceAdd, Nat.reduceLeDiff, ↓reduceIte, p0, hb]
   refine aa_.call (hdat _ (fun y q1 q2 => by rw [au_ (by omega), au_ (by omega), au_ (by omega)])) ?_
   simp (disch := (first | omega | (simp only [ls_, la_, lc_, ln_]; first | done | omega))) only [au_, aH_, go_sem, Nat.reduceEqDiff, Nat.reduceAdd, ↓reduceIte, p2]
   rw [← k1]
   exact fin _ _ _ (by simp [bc_, k1]) (by simp) (fun y q1 q2 => by rw [au_ (by omega), au_ (by omega), au_ (by omega), au_ (by omega), au_ (by omega)]) (((((m0.set (by omega)).set (by omega)).set (by omega)).set (by omega)).set (by omega))
 by_cases k4 : e.Kind = 4
 ·simp (disch := (first | omega | (simp only [ls_, la_, lc_, ln_]; first | done | omega))) only [au_, aH_, ag_, go_sem, Nat.reduceEqDiff, Nat.reduceAdd, ↓reduceIte, p0, p1, k4, Int.reduceEq]
  refine aa_.call (hdat _ (fun y q1 q2 => by rw [au_ (by omega)])) ?_
  simp (disch := (first | omega | (simp only [ls_, la_, lc_, ln_]; first | done | omega))) only [au_, aH_, go_sem, Nat.reduceEqDiff, Nat.reduceAdd, ↓reduceIte, p2]
  rw [← k4]
  exact fin _ _ _ (by simp [bc_, k4]) (by simp) (fun y q1 q2 => by rw [au_ (by omega), au_ (by omega), au_ (by omega)]) (((m0.set (by omega)).set (by omega)).set (by omega))
 have k6 : e.Kind = 6 := by
  simp only [bq_, Bool.or_eq_true, decide_eq_true_eq] at hr
  omega
 have hq : cW_ x e.Name e.Subs = cA_ e.Name e.Subs x.Nodes := by rw [cW_, ht, hth]; rfl
 have hqc : aS_ Tryz.prog 131 [.agg [.list 0 3 (x.Nodes.map ab_.cells)], .val (.string e.Name), .list 0 1 (e.Subs.map ao_)] (jA_ (cA_ e.Name e.Subs x.Nodes)) (fun a => ∃ b q, a = .tup [b, .val (.bool q)]) := by
  have := km_ x e.Name e.Subs hx hnm hs
  rwa [hq] at this
 have hqs := ny_ e.Name e.Subs hx
 simp (disch := (first | omega | (simp only [ls_, la_, lc_, ln_]; first | done | omega))) only [au_, aH_, ag_, go_sem, Nat.reduceEqDiff, Nat.reduceAdd, ↓reduceIte, p0, p1, k6, Int.reduceEq]
 refine rD_ hqc (hargs _ (fun y q1 q2 => by rw [au_ (by omega)])) (fun av H2 m2 F3 q2 => ?_)
 obtain ⟨b, q, rfl⟩ := q2
 have l2 := m2.len
 rw [ls_] at l2
 have g0 := m2.at (i := h0.length) ((au_ (by omega)).trans p0)
 have g1 := m2.at (aH_ (i := h0.length + 1) (H := H1) (by omega))
 have g2 := m2.at (i := h0.length + 2) ((au_ (by omega)).trans p2)
 have gk : ∀ y, h0.length + 3 ≤ y → y < H1.length → H2[y]? = H1[y]? := fun y q1 q2 => by rw [m2.kept y (by rw [ls_]; exact q2), au_ (by omega)]
 have mm := (m0.set (i := h0.length + 1) (r := _) (by omega)).trans m2
 obtain ⟨hB, hb⟩ := F3.two
 simp only [AV.val.injEq, Value.bool.injEq] at hb
 subst hb
 cases hb : (cA_ e.Name e.Subs x.Nodes).2
 ·simp (disch := (first | omega | (simp only [ls_, la_, lc_, ln_]; first | done | omega))) only [au_, aH_, ag_, go_sem, Nat.reduceEqDiff, Nat.reduceAdd, Nat.reduceLeDiff, ↓reduceIte, g1, g2]
  rw [← k6]
  exact fin _ _ _ (by simp [bc_, k6, iZ_, hb]) (by simp; omega) (fun y q1 q2 => by rw [au_ (by omega), au_ (by omega), au_ (by omega)]; exact gk y q1 q2) (((mm.set (by omega)).set (by omega)).set (by omega))
 ·simp (disch := (first | omega | (simp only [ls_, la_, lc_, ln_]; first | done | omega))) only [au_, aH_, ag_, go_sem, Nat.reduceEqDiff, Nat.reduceAdd, Nat.reduceLeDiff, ↓reduceIte, g1, g2]
  refine aa_.call (aa_.own (fun h => lQ_ _ hqs h) (.cons (aA_.arg (hB.tree.keep (fun y q1 q2 => ?_))) .nil)) ?_
  ·rw [ls_] at q1
   rw [au_ (by omega), au_ (by omega), au_ (by omega)]
  simp (disch := (first | omega | (simp only [ls_, la_, lc_, ln_]; first | done | omega))) only [au_, aH_, go_sem, Nat.reduceEqDiff, Nat.reduceAdd, Nat.reduceLeDiff, ↓reduceIte, g2]
  rw [← k6]
  exact fin _ _ _ (by simp [bc_, k6, iZ_, hb]) (by simp; omega) (fun y q1 q2 => by rw [au_ (by omega), au_ (by omega), au_ (by omega), au_ (by omega), au_ (by omega)]; exact gk y q1 q2) (((((mm.set (by omega)).set (by omega)).set (by omega)).set (by omega)).set (by omega))
theorem gk_ {x : ae_} (h : aE_ x = true) : x.Nodes.length ≤ 120 ∧ ∀ a ∈ x.Nodes, ck_ a = true := by
 simp only [aE_, Bool.and_eq_true, decide_eq_true_eq] at h
 exact ⟨by omega, (fI_ _ _ h.2).2.2⟩
theorem hE_ {a : ab_} (h : ck_ a = true) : bC_ a.Name = true ∧ a7_ a.Subs = true ∧ a.Value.size ≤ 64 := by
 simp only [ck_, cC_, Bool.and_eq_true, decide_eq_true_eq] at h
 exact ⟨h.1.1, h.1.2, by omega⟩
theorem iy_ {s : ByteArray} (h : bC_ s = true) : s.size ≤ 8 := by
 simp only [bC_, Bool.and_eq_true, decide_eq_true_eq] at h
 omega
theorem k5_ {xs : List ByteArray} (h : a7_ xs = true) : aq_ ByteArray.size xs ≤ 100 := by
 obtain ⟨h1, h2⟩ := eA_ h
 have : ∀ ys : List ByteArray, (∀ y ∈ ys, y.size ≤ 24) → b1_ ByteArray.size ys ≤ 24 * ys.length := by
  intro ys
  induction ys with
  | nil => intro _; simp [b1_]
  | cons y ys ih =>
   intro hy
   have := ih fun z hz => hy z (by simp [hz])
   have := hy y (by simp)
   simp only [b1_, lc_]; omega
 have := this xs fun x hx => (h2 x hx).2
 simp only [aq_]; omega
theorem pW_ {xs : List ByteArray} (h : gg_ xs = true) : aq_ ByteArray.size xs ≤ 100 := by
 simp only [gg_, Bool.and_eq_true, Bool.or_eq_true, decide_eq_true_eq] at h
 obtain ⟨⟨⟨h1, h2⟩, h3⟩, h4⟩ := h
 have h5 := eA_ h3
 have hl : (dI_ xs).size ≤ 24 := by
  rcases h4 with q | q
  ·rw [q]; simp [bT_]
  ·simp only [bA_, Bool.and_eq_true, decide_eq_true_eq] at q; omega
 have hx : ∀ y ∈ xs, y.size ≤ 24 := by
  intro y hy
  obtain ⟨i, hi, rfl⟩ := List.mem_iff_getElem.1 hy
  by_cases q : i < xs.length - 1
  ·have : xs[i] ∈ bE_ xs := by
    rw [bE_]
    exact List.mem_iff_getElem.2 ⟨i, by rw [List.length_take]; omega, by rw [List.getElem_take]⟩
   exact (h5.2 _ this).2
  ·have e : i = xs.length - 1 := by omega
   subst e
   rw [f3_ xs hi]; exact hl
 have : ∀ ys : List ByteArray, (∀ y ∈ ys, y.size ≤ 24) → b1_ ByteArray.size ys ≤ 24 * ys.length := by
  intro ys
  induction ys with
  | nil => intro _; simp [b1_]
  | cons y ys ih =>
   intro hy
   have := ih fun z hz => hy z (by simp [hz])
   have := hy y (by simp)
   simp only [b1_, lc_]; omega
 have := this xs hx
 simp only [aq_]; omega
theorem rF_ {e : ac_} (h : bi_ e = true) : e.Name.size + aq_ ByteArray.size e.Subs ≤ 108 := by
 by_cases k5 : e.Kind = 5
 ·obtain ⟨h1, h2, _⟩ := iz_ h k5
  have := iy_ h1
  have := pW_ h2
  omega
 ·have := gM_ h k5
  simp only [cC_, Bool.and_eq_true] at this
  have q1 := iy_ this.1
  have q2 := k5_ this.2
  omega
theorem s4_ {x : ae_} (h : aE_ x = true) (n : ByteArray) (s : List ByteArray) : (e2_ x n s).1.size ≤ 64 := by
 unfold e2_
 split
 ·rename_i a ha
  split
  ·exact (hE_ ((gk_ h).2 a (List.mem_of_getElem? ha))).2.2
  ·simp [bT_]
 ·simp [bT_]
theorem p6_ {x : ae_} (h : aE_ x = true) (n : ByteArray) (s : List ByteArray) (back : Bool) : (fu_ x n s back).size ≤ 64 := by
 unfold fu_
 have hn := (gk_ h).2
 generalize s.getD (s.length - 1) (txt []) = last
 have : ∀ (ns : List ab_) (b : ByteArray), (∀ a ∈ ns, ck_ a = true) → b.size ≤ 64 → (ns.foldl (fg_ n s back last) b).size ≤ 64 := by
  intro ns
  induction ns with
  | nil => intro b _ hb; exact hb
  | cons a r ih =>
   intro b ha hb
   rw [List.foldl_cons]
   refine ih _ (fun c hc => ha c (by simp [hc])) ?_
   unfold fg_
   split
   ·rename_i t ht
    split
    ·have := (eA_ (hE_ (ha a (by simp))).2.1).2 t (List.mem_of_getElem? ht)
     omega
    ·exact hb
   ·exact hb
 exact this _ _ hn (by simp [bT_])
theorem sf_ (xs : List ByteArray) : (iB_ xs).length ≤ 300 := by
 unfold iB_
 split
 ·rename_i h
  have := eA_ h
  have := jx_ xs (fun x hx => (this.2 x hx).2)
  omega
 ·simp
theorem lb_ {x : ae_} {e : ac_} (ht : aE_ x = true) (hn : bi_ e = true) (hz : ac_.sz e ≤ 1048576) : ac_.sz (bc_ x e) ≤ 1048576 := by
 have h1 := rF_ hn
 have e1 : ∀ a : ac_, ac_.sz a = a.Name.size + aq_ ByteArray.size a.Subs + a.Value.size := fun _ => rfl
 rw [e1] at hz ⊢
 unfold bc_ iZ_
 have v1 := s4_ ht e.Name e.Subs
 have v2 := p6_ ht e.Name e.Subs (decide (e.N < 0))
 have v3 := sf_ (cA_ e.Name e.Subs x.Nodes).1
 (repeat' split) <;> simp only [bT_, ln_] <;> omega
theorem oF_ {e : ac_} (hn : bi_ e = true) (ht : bR_ e = false) : bq_ e = true := by
 simp only [bi_, a8_, Bool.and_eq_true] at hn
 simp only [bR_, Bool.or_eq_false_iff, decide_eq_false_iff_not] at ht
 simp only [bq_, Bool.or_eq_true, decide_eq_true_eq]
 have h2 := hn.1.2
 by_cases k1 : e.Kind = 1
 ·omega
 by_cases k4 : e.Kind = 4
 ·omega
 by_cases k5 : e.Kind = 5
 ·omega
 by_cases k6 : e.Kind = 6
 ·omega
 ·rw [if_neg k1, if_neg k4, if_neg k5, if_neg k6, if_neg ht.1] at h2
  simp only [Bool.and_eq_true, decide_eq_true_eq] at h2
  omega
def y9_ : LC :=
 .seq (.ops [.s 2 (.mov (.const (.bool false)))]) (.seq (.ops [.m 3 0, .s 4 (.call 116 [.tmp 3, .const (.int .i64 1), .const (.int .i64 4)]), .m 2 4]) .ret)
def vE_ : LF := ⟨1, 5, y9_, [.tmp 2]⟩
theorem AL_ : ar_ Tryz.prog Tryz.f109 vE_ := ah_
theorem jN_ (n : Int)  (h : List Row) : aa_ Tryz.prog 109 [.val (.int .i64 n)] h (.val (.bool (dd_ n 1 4))) := by
 refine ai_ mixed Tryz.func109 AL_ rfl rfl ?_ h
 simp (disch := omega) only [vE_, y9_, go_sem, reduceCtorEq, ↓reduceIte]
 repeat' (first
  | exact af_ _ _
  | simp (disch := omega) only [go_sem, ↓reduceIte]
  | (refine aa_.call (fl_ _ _ _ _) ?_)
  | (refine aa_.q (fl_ _ _ _ _) ?_)
  | ((first | (apply aF_; assumption) | (apply aD_; assumption) | (apply aK_; assumption) | (apply aJ_; assumption)); intro hb; try simp only [hb])
  | ((first | apply ak_ | apply am_) <;> intro hb <;> (try simp only [hb]) <;> (first | have hp := aT_ hb | have hp := aV_ hb | have hp := aU_ hb | have hp := aW_ hb | skip)))
def Bw_ : LC :=
 .seq (.ops [.s 2 (.mov (.const (.bool false)))]) (.seq (.ops [.m 3 0, .s 4 (.call 113 [.tmp 3, .const (.int .i64 1), .const (.int .i64 4)]), .m 2 4]) .ret)
def wq_ : LF := ⟨1, 5, Bw_, [.tmp 2]⟩
theorem x3_ : ar_ Tryz.prog Tryz.f106 wq_ := ah_
theorem iP_ (n : Int)  (h : List Row) : aa_ Tryz.prog 106 [.val (.int .i64 n)] h (.val (.bool (dd_ n 1 4))) := by
 refine ai_ mixed Tryz.func106 x3_ rfl rfl ?_ h
 simp (disch := omega) only [wq_, Bw_, go_sem, reduceCtorEq, ↓reduceIte]
 repeat' (first
  | exact af_ _ _
  | simp (disch := omega) only [go_sem, ↓reduceIte]
  | (refine aa_.call (g9_ _ _ _ _) ?_)
  | (refine aa_.q (g9_ _ _ _ _) ?_)
  | ((first | (apply aF_; assumption) | (apply aD_; assumption) | (apply aK_; assumption) | (apply aJ_; assumption)); intro hb; try simp only [hb])
  | ((first | apply ak_ | apply am_) <;> intro hb <;> (try simp only [hb]) <;> (first | have hp := aT_ hb | have hp := aV_ hb | have hp := aU_ hb | have hp := aW_ hb | skip)))
def cX_ (xs : List ac_) : Bool := decide ((xs.length : Int) ≤ 60) && xs.all bi_
def c91 : LC :=
 .seq (.ops [.s 1 (.box 79 (.tmp 0)), .s 2 (.mov (.const (.bool false)))]) (.seq (.ops [.ld 3 5 1, .c1 4 92 3, .nt 5 4, .m 2 5]) .ret)
def BD_ : LF := ⟨1, 6, c91, [.tmp 2]⟩
theorem Dw_ : ar_ Tryz.prog Tryz.f91 BD_ := ah_
theorem g3_ (x : ac_) (hx : ac_.sz x ≤ 1048576) (h : List Row) : aa_ Tryz.prog 91 [.agg (ac_.cells x)] h (.val (.bool (!bi_ x))) := by
 refine ai_ mixed Tryz.func91 Dw_ rfl rfl ?_ h
 simp (disch := omega) only [BD_, c91, ac_.cells, go_sem, Nat.reduceEqDiff, Nat.reduceAdd, ↓reduceIte]
 repeat' (first
  | exact af_ _ _
  | simp (disch := omega) only [go_sem, ↓reduceIte]
  | (refine aa_.call (h2_ x hx _) ?_)
  | (refine aa_.q (h2_ x hx _) ?_)
  | ((first | (apply aF_; assumption) | (apply aD_; assumption) | (apply aK_; assumption) | (apply aJ_; assumption)); intro hb; try simp only [hb])
  | ((first | apply ak_ | apply am_) <;> intro hb <;> (try simp only [hb]) <;> (first | have hp := aT_ hb | have hp := aV_ hb | have hp := aU_ hb | have hp := aW_ hb | skip)))
def AE_ : LC :=
 .seq (.ops [.ki 4 0]) (.seq (.seq (.ops [.m 6 0, .ll 7 6, .ki 8 0]) (.block 0 (.loop (.seq (.ops [.bb 9 .lss false 8 7]) (.seq (.cond (.tmp 9) .skip (.exit 0)) (.seq (.block 1 (.seq (.ops [.m 10 8, .m 5 10]) (.seq (.ops
 [.m 11 1, .m 12 0, .m 13 5, .ia 14 5 12 13, .ld 15 5 14, .s 16 (.callv (.tmp 11) [.tmp 15])]) (.cond (.tmp 16) (.seq (.ops [.m 17 5, .m 4 17]) .ret) .skip)))) (.ops [.bk 18 .add false 8 1, .m 8 18]))))))) (.seq (.ops [.s
 4 (.mov (.const (.int .i64 (-1))))]) .ret))
def wc_ : LF := ⟨2, 19, AE_, [.tmp 4]⟩
theorem zl_ : ar_ Tryz.prog Tryz.f139 wc_ := ah_
theorem gj_ (xs : List ac_) (p : ac_ → Bool) (g : Nat) (hx : xs.length ≤ 1048576) (hc : bZ_ Tryz.prog g = true) (hp : ∀ x ∈ xs, ∀ h, aa_ Tryz.prog g [.agg (ac_.cells x)] h (.val (.bool (p x)))) (h : List Row) :
 aa_ Tryz.prog 139 [.list 0 5 (xs.map ac_.cells), .fn g [] []] h (.val (.int .i64 (bL_ p xs 0))) := by
 refine ai_ mixed Tryz.func139 zl_ rfl rfl ?_ h
 simp (disch := omega) only [wc_, AE_, go_sem, reduceCtorEq, Int.reduceNeg, ↓reduceIte]
 refine aO_ (fun n t h => ∃ k : Nat, t 0 = .list 0 5 (xs.map ac_.cells) ∧ t 1 = .fn g [] [] ∧ t 6 = .list 0 5 (xs.map ac_.cells) ∧ t 7 = .val (.int .i64 xs.length) ∧ t 8 = .val (.int .i64 k) ∧ n = xs.length - k ∧ k ≤ xs.length ∧ (bL_ p xs 0 = bL_ p (xs.drop k) k)) (xs.length) ?_ ?_
 ·exact ⟨0, rfl, rfl, rfl, rfl, rfl, rfl, Nat.zero_le _, rfl⟩
 ·rintro J hJ n t h ⟨k, t0, t1, t6, t7, k8, rfl, hk, hS⟩
  by_cases hlt : k < xs.length
  ·skip
   rw [gf_ p xs k hlt] at hS
   simp (disch := omega) only [t0, t1, t7, k8, hlt, hc, ac_.cells, go_sem, Nat.reduceEqDiff, Nat.reduceAdd, reduceCtorEq, Int.reduceNeg, ↓reduceIte]
   repeat' (first
    | exact af_ _ _
    | exact ⟨xs.length - (k + 1), by omega, hJ _ _ _ ⟨k + 1, by simp [upd, t0], by simp [upd, t1], by simp [upd, t6], by simp [upd, t7], by simp [upd], rfl, by omega, by rw [hS]; simp [*]⟩⟩
    | (refine aL_ ?_; rw [hS]; simp [*]; done)
    | (refine aL_ ?_; rw [hS, d7_ _ _ _ (by omega)])
    | simp (disch := omega) only [k8, go_sem, Nat.reduceEqDiff, Int.reduceNeg, ↓reduceIte]
    | (refine aa_.call (hp xs[k] (List.getElem_mem hlt) _) ?_)
    | (refine aa_.q (hp xs[k] (List.getElem_mem hlt) _) ?_)
    | ((first | (apply aF_; assumption) | (apply aD_; assumption) | (apply aK_; assumption) | (apply aJ_; assumption)); intro hb; try simp only [hb])
    | ((first | apply ak_ | apply am_) <;> intro hb <;> (try simp only [hb]) <;> (first | have hp := aT_ hb | have hp := aV_ hb | have hp := aU_ hb | have hp := aW_ hb | skip)))
  ·skip
   simp (disch := omega) only [t7, k8, hlt, go_sem, Int.reduceNeg, ↓reduceIte]
   repeat' (first
    | exact af_ _ _
    | (refine aL_ ?_; rw [hS]; simp [*]; done)
    | (refine aL_ ?_; rw [hS, d7_ _ _ _ (by omega)])
    | simp (disch := omega) only [t0, t1, t6, t7, k8, go_sem, Nat.reduceEqDiff, Nat.reduceAdd, Nat.reduceLeDiff, reduceCtorEq, Int.reduceLT, Int.reduceLE, Int.reduceNeg, Int.reduceSub, Int.reduceAdd, Int.reduceToNat, ↓reduceIte]
    | (refine aa_.call (hp xs[k] (List.getElem_mem hlt) _) ?_)
    | (refine aa_.q (hp xs[k] (List.getElem_mem hlt) _) ?_)
    | ((first | (apply aF_; assumption) | (apply aD_; assumption) | (apply aK_; assumption) | (apply aJ_; assumption)); intro hb; try simp only [hb])
    | ((first | apply ak_ | apply am_) <;> intro hb <;> (try simp only [hb]) <;> (first | have hp := aT_ hb | have hp := aV_ hb | have hp := aU_ hb | have hp := aW_ hb | skip)))
def c90 : LC :=
 .seq (.ops [.s 4 (.mov (.const (.bool false)))]) (.seq (.ops [.m 5 0, .m 6 1, .c2 7 139 5 6, .bk 8 .geq false 7 0, .m 4 8]) .ret)
def By_ : LF := ⟨2, 9, c90, [.tmp 4]⟩
theorem Cy_ : ar_ Tryz.prog Tryz.f90 By_ := ah_
theorem dn_ (xs : List ac_) (p : ac_ → Bool) (g : Nat) (hx : xs.length ≤ 1048576) (hc : bZ_ Tryz.prog g = true) (hp : ∀ x ∈ xs, ∀ h, aa_ Tryz.prog g [.agg (ac_.cells x)] h (.val (.bool (p x)))) (h : List Row) :
 aa_ Tryz.prog 90 [.list 0 5 (xs.map ac_.cells), .fn g [] []] h (.val (.bool (xs.any p))) := by
 refine ai_ mixed Tryz.func90 Cy_ rfl rfl ?_ h
 simp (disch := omega) only [By_, c90, go_sem, Nat.reduceEqDiff, reduceCtorEq, ↓reduceIte]
 refine aa_.call (gj_ xs p g hx hc hp _) ?_
 simp (disch := omega) only [go_sem, ↓reduceIte]
 exact ad_ (iD_ p xs)
def c48 : LC :=
 .seq (.ops [.s 2 (.mov (.const (.bool false)))]) (.seq (.ops [.m 3 0, .ll 4 3, .bk 5 .leq false 4 60, .m 6 5, .g 7 6 true (.mov (.tmp 0)), .g 8 6 true (.call 90 [.tmp 7, .func 91]), .g 9 6 true (.un .not (.tmp 8)), .pf
 10 6 9, .m 2 10]) .ret)
def BC_ : LF := ⟨1, 11, c48, [.tmp 2]⟩
theorem CZ_ : ar_ Tryz.prog Tryz.f48 BC_ := ah_
theorem f9_ (xs : List ac_) (hs : aq_ ac_.sz xs ≤ 1048576) (h : List Row) : aa_ Tryz.prog 48 [.list 0 5 (xs.map ac_.cells)] h (.val (.bool (cX_ xs))) := by
 refine ai_ mixed Tryz.func48 CZ_ rfl rfl ?_ h
 simp (disch := omega) only [BC_, c48, go_sem, reduceCtorEq, ↓reduceIte]
 repeat' (first
  | exact af_ _ _
  | (refine ad_ ?_; simp only [mI_, cX_, *, Bool.true_and, Bool.false_and, decide_true, decide_false]; done)
  | simp (disch := omega) only [go_sem, Nat.reduceEqDiff, reduceCtorEq, ↓reduceIte]
  | (refine aa_.call (dn_ _ (fun s => !bi_ s) 91 (at_ hs) (by kernel_rfl) (fun x hx h => g3_ x (by have := b2_ (f := ac_.sz) hx; omega) h) _) ?_)
  | (refine aa_.q (dn_ _ (fun s => !bi_ s) 91 (at_ hs) (by kernel_rfl) (fun x hx h => g3_ x (by have := b2_ (f := ac_.sz) hx; omega) h) _) ?_)
  | ((first | (apply aQ_; assumption) | (apply aR_; assumption) | (apply a2_; assumption) | (apply a1_; assumption)); intro hb; try simp only [hb])
  | ((first | (apply aF_; assumption) | (apply aD_; assumption) | (apply aK_; assumption) | (apply aJ_; assumption)); intro hb; try simp only [hb])
  | ((first | apply az_ | apply aC_ | apply ak_ | apply am_) <;> intro hb <;> (try simp only [hb]) <;> (first | have hp := aT_ hb | have hp := aV_ hb | have hp := aU_ hb | have hp := aW_ hb | skip)))
def c42 : LC :=
 .seq (.ops [.s 2 (.mov (.const (.bool false)))]) (.seq (.seq (.ops [.m 4 0, .ll 5 4, .bk 6 .gtr false 5 60]) (.cond (.tmp 6) (.seq (.ops [.s 2 (.mov (.const (.bool false)))]) .ret) .skip)) (.seq (.seq (.ops [.ki 3 0])
 (.block 0 (.loop (.seq (.seq (.ops [.m 7 3, .m 8 0, .ll 9 8, .bb 10 .lss false 7 9]) (.cond (.tmp 10) .skip (.exit 0))) (.seq (.block 1 (.seq (.ops [.m 13 0, .m 14 3, .ia 15 5 13 14, .ld 16 5 15, .c1 17 80 16, .nt 18
 17]) (.cond (.tmp 18) (.seq (.ops [.s 2 (.mov (.const (.bool false)))]) .ret) .skip))) (.ops [.m 11 3, .bk 12 .add false 11 1, .m 3 12])))))) (.seq (.ops [.s 2 (.mov (.const (.bool true)))]) .ret)))
def un_ : LF := ⟨1, 19, c42, [.tmp 2]⟩
theorem Dh_ : ar_ Tryz.prog Tryz.f42 un_ := ah_
theorem hO_ (xs : List ac_) (hs : aq_ ac_.sz xs ≤ 1048576) (h : List Row) : aa_ Tryz.prog 42 [.list 0 5 (xs.map ac_.cells)] h (.val (.bool (cX_ xs))) := by
 refine ai_ mixed Tryz.func42 Dh_ rfl rfl ?_ h
 have hx := at_ hs
 have hm : ∀ x ∈ xs, ac_.sz x ≤ 1048576 := fun x hx => by have := b2_ (f := ac_.sz) hx; omega
 by_cases h4 : (xs.length : Int) ≤ 60
 ·have h4' : ((60 : Int) < xs.length) = False := eq_false (by omega)
  have hS0 : cX_ xs = xs.all bi_ := by simp [cX_, h4]
  simp (disch := omega) only [un_, c42, h4', go_sem, reduceCtorEq, ↓reduceIte]
  refine aO_ (fun n t h => ∃ k : Nat, t 0 = .list 0 5 (xs.map ac_.cells) ∧ t 3 = .val (.int .i64 k) ∧ n = xs.length - k ∧ k ≤ xs.length ∧ (xs.all bi_ = (xs.drop k).all bi_)) (xs.length) ?_ ?_
  ·exact ⟨0, rfl, rfl, rfl, Nat.zero_le _, rfl⟩
  ·rintro J hJ n t h ⟨k, t0, k3, rfl, hk, hS⟩
   by_cases hlt : k < xs.length
   ·skip
    rw [lt_ bi_ xs k hlt] at hS
    simp (disch := omega) only [t0, k3, hlt, ac_.cells, go_sem, Nat.reduceEqDiff, Nat.reduceAdd, reduceCtorEq, ↓reduceIte]
    repeat' (first
     | exact af_ _ _
     | exact ⟨xs.length - (k + 1), by omega, hJ _ _ _ ⟨k + 1, by simp [upd, t0], by simp [upd], rfl, by omega, by rw [hS]; first | (simp only [*, Bool.true_and]; done) | simp [*]⟩⟩
     | (refine ad_ ?_; rw [hS0, hS]; first | (simp only [*, Bool.false_and]; done) | (simp [*]; done))
     | (refine ad_ ?_; rw [hS0, hS, hw_ _ _ _ (by omega)])
     | simp (disch := omega) only [k3, go_sem, Nat.reduceEqDiff, ↓reduceIte]
     | (refine aa_.call (fe_ _ (hm _ (List.getElem_mem hlt)) _) ?_)
     | (refine aa_.q (fe_ _ (hm _ (List.getElem_mem hlt)) _) ?_)
     | ((first | (apply aQ_; assumption) | (apply aR_; assumption) | (apply a2_; assumption) | (apply a1_; assumption)); intro hb; try simp only [hb])
     | ((first | (apply aF_; assumption) | (apply aD_; assumption) | (apply aK_; assumption) | (apply aJ_; assumption)); intro hb; try simp only [hb])
     | ((first | apply az_ | apply aC_ | apply ak_ | apply am_) <;> intro hb <;> (try simp only [hb]) <;> (first | have hp := aT_ hb | have hp := aV_ hb | have hp := aU_ hb | have hp := aW_ hb | skip)))
   ·skip
    simp (disch := omega) only [t0, k3, hlt, go_sem, Nat.reduceEqDiff, reduceCtorEq, ↓reduceIte]
    repeat' (first
     | exact af_ _ _
     | (refine ad_ ?_; rw [hS0, hS]; first | (simp only [*, Bool.and_true, Bool.true_and, Bool.and_false, Bool.false_and, Bool.or_true, Bool.true_or, Bool.or_false, Bool.false_or, Bool.not_true, Bool.not_false, decide_true, decide_false, Bool.and_self, Bool.or_self]; done) | (simp [*]; done))
     | (refine ad_ ?_; rw [hS0, hS, hw_ _ _ _ (by omega)])
     | simp (disch := omega) only [t0, k3, go_sem, Nat.reduceEqDiff, Nat.reduceAdd, Nat.reduceLeDiff, reduceCtorEq, Int.reduceLT, Int.reduceLE, Int.reduceNeg, Int.reduceSub, Int.reduceAdd, Int.reduceToNat, ↓reduceIte]
     | (refine aa_.call (fe_ _ (hm _ (List.getElem_mem hlt)) _) ?_)
     | (refine aa_.q (fe_ _ (hm _ (List.getElem_mem hlt)) _) ?_)
     | ((first | (apply aQ_; assumption) | (apply aR_; assumption) | (apply a2_; assumption) | (apply a1_; assumption)); intro hb; try simp only [hb])
     | ((first | (apply aF_; assumption) | (apply aD_; assumption) | (apply aK_; assumption) | (apply aJ_; assumption)); intro hb; try simp only [hb])
     | ((first | apply az_ | apply aC_ | apply ak_ | apply am_) <;> intro hb <;> (try simp only [hb]) <;> (first | have hp := aT_ hb | have hp := aV_ hb | have hp := aU_ hb | have hp := aW_ hb | skip)))
 ·have h4' : ((60 : Int) < xs.length) = True := eq_true (by omega)
  simp (disch := omega) only [un_, c42, h4', go_sem, reduceCtorEq, ↓reduceIte]
  exact ad_ (by simp [cX_, h4])
def cw_ (x : aj_) : Bool := dd_ x.Job 1 4 && cX_ x.Events
def Cd_ : LC :=
 .seq (.ops [.s 1 (.box 92 (.tmp 0)), .s 2 (.mov (.const (.bool false)))]) (.seq (.ops [.fa 3 0 1, .ln 4 3, .c1 5 109 4, .m 6 5, .g 7 6 true (.fieldAddr 1 (.tmp 1)), .g 8 6 true (.load none (.tmp 7)), .g 9 6 true (.call
 48 [.tmp 8]), .pf 10 6 9, .m 2 10]) .ret)
def wa_ : LF := ⟨1, 11, Cd_, [.tmp 2]⟩
theorem Aj_ : ar_ Tryz.prog Tryz.f105 wa_ := ah_
theorem h4_ (x : aj_) (hx : aj_.sz x ≤ 1048576) (h : List Row) : aa_ Tryz.prog 105 [.agg (aj_.cells x)] h (.val (.bool (cw_ x))) := by
 refine ai_ mixed Tryz.func105 Aj_ rfl rfl ?_ h
 simp (disch := omega) only [wa_, Cd_, aj_.cells, go_sem, Nat.reduceEqDiff, Nat.reduceAdd, ↓reduceIte]
 repeat' (first
  | exact af_ _ _
  | (refine ad_ ?_; first | rfl | (simp only [cw_, *, Bool.true_and, Bool.false_and]; done) | (simp [cw_, *]; done))
  | simp (disch := omega) only [go_sem, Nat.reduceEqDiff, ↓reduceIte]
  | (refine aa_.call (jN_ _ _) ?_)
  | (refine aa_.q (jN_ _ _) ?_)
  | (refine aa_.call (f9_ _ (aj_.sz_Events hx) _) ?_)
  | (refine aa_.q (f9_ _ (aj_.sz_Events hx) _) ?_)
  | ((first | (apply aQ_; assumption) | (apply aR_; assumption) | (apply a2_; assumption) | (apply a1_; assumption)); intro hb; try simp only [hb])
  | ((first | (apply aF_; assumption) | (apply aD_; assumption) | (apply aK_; assumption) | (apply aJ_; assumption)); intro hb; try simp only [hb])
  | ((first | apply az_ | apply aC_ | apply ak_ | apply am_) <;> intro hb <;> (try simp only [hb]) <;> (first | have hp := aT_ hb | have hp := aV_ hb | have hp := aU_ hb | have hp := aW_ hb | skip)))
def y5_ : LC :=
 .seq (.ops [.s 1 (.box 92 (.tmp 0)), .s 2 (.mov (.const (.bool false)))]) (.seq (.ops [.fa 3 0 1, .ln 4 3, .c1 5 106 4, .m 6 5, .g 7 6 true (.fieldAddr 1 (.tmp 1)), .g 8 6 true (.load none (.tmp 7)), .g 9 6 true (.call
 42 [.tmp 8]), .pf 10 6 9, .m 2 10]) .ret)
def vK_ : LF := ⟨1, 11, y5_, [.tmp 2]⟩
theorem zJ_ : ar_ Tryz.prog Tryz.f102 vK_ := ah_
theorem eK_ (x : aj_) (hx : aj_.sz x ≤ 1048576) (h : List Row) : aa_ Tryz.prog 102 [.agg (aj_.cells x)] h (.val (.bool (cw_ x))) := by
 refine ai_ mixed Tryz.func102 zJ_ rfl rfl ?_ h
 simp (disch := omega) only [vK_, y5_, aj_.cells, go_sem, Nat.reduceEqDiff, Nat.reduceAdd, ↓reduceIte]
 repeat' (first
  | exact af_ _ _
  | (refine ad_ ?_; first | rfl | (simp only [cw_, *, Bool.true_and, Bool.false_and]; done) | (simp [cw_, *]; done))
  | simp (disch := omega) only [go_sem, Nat.reduceEqDiff, ↓reduceIte]
  | (refine aa_.call (iP_ _ _) ?_)
  | (refine aa_.q (iP_ _ _) ?_)
  | (refine aa_.call (hO_ _ (aj_.sz_Events hx) _) ?_)
  | (refine aa_.q (hO_ _ (aj_.sz_Events hx) _) ?_)
  | ((first | (apply aQ_; assumption) | (apply aR_; assumption) | (apply a2_; assumption) | (apply a1_; assumption)); intro hb; try simp only [hb])
  | ((first | (apply aF_; assumption) | (apply aD_; assumption) | (apply aK_; assumption) | (apply aJ_; assumption)); intro hb; try simp only [hb])
  | ((first | apply az_ | apply aC_ | apply ak_ | apply am_) <;> intro hb <;> (try simp only [hb]) <;> (first | have hp := aT_ hb | have hp := aV_ hb | have hp := aU_ hb | have hp := aW_ hb | skip)))
theorem pt_ {a b : ab_} (h : ¬ (a.Name = b.Name ∧ a.Subs = b.Subs)) : bP_ a b = true ∨ bP_ b a = true := by
 refine p1_ (fun q => h ⟨?_, ?_⟩)
 ·have := q.1; rwa [md_] at this
 ·exact (qx_ _ _).1 q.2
theorem nI_ : ∀ (r : List ab_) (p : Option ab_), r.Pairwise (fun a b => bP_ a b = true) → (∀ q, p = some q → ∀ x ∈ r, bP_ q x = true) → (∀ x ∈ r, ck_ x = true) → dw_ p r = true
 | [], p, _, _, _ => by simp [dw_]
 | a :: r, p, h1, h2, h3 => by
  obtain ⟨h4, h5⟩ := List.pairwise_cons.1 h1
  simp only [dw_, Bool.and_eq_true]
  refine ⟨⟨h3 a (by simp), ?_⟩, nI_ r (some a) h5 (by rintro q e x hx; cases e; exact h4 x hx) (fun x hx => h3 x (by simp [hx]))⟩
  cases p with
  | none => rfl
  | some q => exact h2 q rfl a (by simp)
theorem ki_ {ns : List ab_} (h0 : ns.length ≤ 120) (h1 : ns.Pairwise (fun a b => bP_ a b = true)) (h2 : ∀ x ∈ ns, ck_ x = true) : aE_ ⟨ns⟩ = true := by
 simp only [aE_, Bool.and_eq_true, decide_eq_true_eq]
 exact ⟨by omega, nI_ ns none h1 (by simp) h2⟩
theorem ht_ {x : ae_} (h : aE_ x = true) : x.Nodes.length ≤ 120 := (gk_ h).1
theorem jk_ {ns : List ab_} {n : ByteArray} {s : List ByteArray} (h : bh_ ns n s = true) : ∃ hp : bb_ ns n s < ns.length, ns[bb_ ns n s].Name = n ∧ ns[bb_ ns n s].Subs = s := by
 unfold bh_ at h
 split at h
 ·rename_i a e
  obtain ⟨hp, e'⟩ := List.getElem?_eq_some_iff.1 e
  refine ⟨hp, ?_⟩
  rw [e']
  simp only [fc_, Bool.and_eq_true, decide_eq_true_eq] at h
  exact ⟨h.1, (jz_ _ _).1 h.2⟩
 ·cases h
theorem tq_ {ns : List ab_} {n : ByteArray} {s : List ByteArray} (h : bh_ ns n s = false) (hp : bb_ ns n s < ns.length) : ¬ (ns[bb_ ns n s].Name = n ∧ ns[bb_ ns n s].Subs = s) := by
 unfold bh_ at h
 rw [List.getElem?_eq_getElem hp] at h
 simp only at h
 intro q
 rw [fc_, (jz_ _ _).2 q.2, decide_eq_true q.1] at h
 cases h
def dB_ (ns : List ab_) (n : ByteArray) (s : List ByteArray) (v : ByteArray) : List ab_ := ns.take (bb_ ns n s) ++ ⟨n, s, v⟩ :: ns.drop (bb_ ns n s + (if bh_ ns n s = true then 1 else 0))
theorem oU_ {ns : List ab_} {n : ByteArray} {s : List ByteArray} {v : ByteArray} (h : bh_ ns n s = true) : dB_ ns n s v = ns.set (bb_ ns n s) ⟨n, s, v⟩ := by
 obtain ⟨hp, _⟩ := jk_ h
 rw [dB_, if_pos h, List.set_eq_take_append_cons_drop, if_pos hp]
theorem lD_ {ns : List ab_} {n : ByteArray} {s : List ByteArray} {v : ByteArray} (h : bh_ ns n s = false) : dB_ ns n s v = ns.take (bb_ ns n s) ++ ⟨n, s, v⟩ :: ns.drop (bb_ ns n s) := by
 rw [dB_, if_neg (by rw [h]; simp), Nat.add_zero]
theorem tC_ {ns : List ab_} {n : ByteArray} {s : List ByteArray} {v : ByteArray} : (dB_ ns n s v).length = if bh_ ns n s = true then ns.length else ns.length + 1 := by
 have := kL_ ns n s
 by_cases h : bh_ ns n s = true
 ·rw [oU_ h, if_pos h, ls_]
 ·have h' : bh_ ns n s = false := by simpa using h
  rw [lD_ h', if_neg h, la_, List.length_take, lc_, List.length_drop]; omega
theorem qI_ {x : ae_} (h : aE_ x = true) {n : ByteArray} {s : List ByteArray} {v : ByteArray} (ht : cC_ n s = true) (hv : v.size ≤ 64) (hl : bh_ x.Nodes n s = true ∨ x.Nodes.length < 120) : aE_ ⟨dB_ x.Nodes n s v⟩ = true := by
 have hlen := ht_ h
 have hsort := List.pairwise_iff_getElem.1 (fy_ h)
 have hnode := lV_ h
 have hahead : ∀ a ∈ x.Nodes.take (bb_ x.Nodes n s), bP_ a ⟨n, s, v⟩ = true := by
  intro a ha
  obtain ⟨i, hi, rfl⟩ := List.mem_iff_getElem.1 ha
  rw [List.length_take] at hi
  rw [List.getElem_take]
  exact (kf_ h n s i (by omega)).2 (by omega)
 have hbehind : ∀ b ∈ x.Nodes.drop (bb_ x.Nodes n s + (if bh_ x.Nodes n s = true then 1 else 0)), bP_ ⟨n, s, v⟩ b = true := by
  intro b hb
  obtain ⟨i, hi, rfl⟩ := List.mem_iff_getElem.1 hb
  rw [List.length_drop] at hi
  rw [List.getElem_drop]
  by_cases hf : bh_ x.Nodes n s = true
  ·simp only [hf, if_true] at hi ⊢
   obtain ⟨hp, e1, e2⟩ := jk_ hf
   have := hsort (bb_ x.Nodes n s) (bb_ x.Nodes n s + 1 + i) hp (by omega) (by omega)
   unfold bP_ at this ⊢
   rw [e1, e2] at this
   exact this
  ·have hf' : bh_ x.Nodes n s = false := by simpa using hf
   simp only [hf', Bool.false_eq_true, if_false, Nat.add_zero] at hi ⊢
   have hp : bb_ x.Nodes n s < x.Nodes.length := by omega
   have h0 : bP_ ⟨n, s, v⟩ x.Nodes[bb_ x.Nodes n s] = true := by
    rcases pt_ (a := ⟨n, s, v⟩) (b := x.Nodes[bb_ x.Nodes n s]) (fun q => tq_ hf' hp ⟨q.1.symm, q.2.symm⟩) with q | q
    ·exact q
    ·have := (kf_ h n s _ hp).1 q; omega
   by_cases q : i = 0
   ·subst q; exact h0
   ·exact f8_ h0 (hsort _ _ hp (by omega) (by omega))
 refine ki_ ?_ ?_ ?_
 ·rw [tC_]; split
  ·exact hlen
  ·rename_i q
   rcases hl with hl | hl
   ·exact absurd hl q
   ·omega
 ·unfold dB_
  refine List.pairwise_append.2 ⟨(fy_ h).sublist (List.take_sublist _ _), List.pairwise_cons.2 ⟨hbehind, (fy_ h).sublist (List.drop_sublist _ _)⟩, ?_⟩
  intro a ha b hb
  rcases List.mem_cons.1 hb with e | e
  ·subst e; exact hahead a ha
  ·exact f8_ (hahead a ha) (hbehind b e)
 ·intro a ha
  unfold dB_ at ha
  rcases List.mem_append.1 ha with e | e
  ·exact hnode a (List.mem_of_mem_take e)
  ·rcases List.mem_cons.1 e with e | e
   ·subst e
    simp only [ck_, Bool.and_eq_true, decide_eq_true_eq]
    exact ⟨ht, by omega⟩
   ·exact hnode a (List.mem_of_mem_drop e)
theorem tS_ {x : ae_} (h : aE_ x = true) (n : ByteArray) (s : List ByteArray) : aE_ ⟨cB_ x.Nodes n s⟩ = true := by
 refine ki_ (Nat.le_trans (List.length_filter_le _ _) (ht_ h)) ((fy_ h).sublist List.filter_sublist) (fun a ha => lV_ h a (List.mem_filter.1 ha).1)
theorem sn_ {α : Type} (f : α → Nat) (b : Nat) : ∀ xs : List α, (∀ x ∈ xs, f x ≤ b) → b1_ f xs ≤ b * xs.length
 | [], _ => by simp [b1_]
 | x :: xs, h => by
  have := sn_ f b xs fun y hy => h y (by simp [hy])
  have := h x (by simp)
  simp only [b1_, lc_, Nat.mul_add]; omega
theorem ss_ {a : ab_} (h : ck_ a = true) : ab_.sz a ≤ 172 := by
 obtain ⟨h1, h2, h3⟩ := hE_ h
 have := iy_ h1
 have := k5_ h2
 unfold ab_.sz; omega
theorem so_ {x : ae_} (h : aE_ x = true) : ae_.sz x ≤ 20760 := by
 obtain ⟨h1, h2⟩ := gk_ h
 have := sn_ ab_.sz 172 x.Nodes fun a ha => ss_ (h2 a ha)
 unfold ae_.sz
 simp only [aq_]; omega
theorem c2_ {x : ae_} (h : aE_ x = true) : ae_.sz x ≤ 1048576 := Nat.le_trans (so_ h) (by decide)
theorem fW_ : aE_ ⟨[]⟩ = true := ki_ (by simp) List.Pairwise.nil (by simp)
def cI_ (c : aZ_) : Bool := cC_ c.Name c.Subs && (decide (c.Kind = 1) && decide ((c.Value.size : Int) ≤ 64) || decide (c.Kind = 2) && decide (c.Value = txt []))
def bO_ (x : ae_) (c : aZ_) : ae_ × Int :=
 if c.Kind = 1 then (if bh_ x.Nodes c.Name c.Subs = true ∨ x.Nodes.length < 120 then (⟨dB_ x.Nodes c.Name c.Subs c.Value⟩, 0) else (⟨[]⟩, 4)) else (⟨cB_ x.Nodes c.Name c.Subs⟩, 0)
theorem rV_ {x : ae_} (h : aE_ x = true) {c : aZ_} (hc : cI_ c = true) : aE_ (bO_ x c).1 = true := by
 simp only [cI_, Bool.and_eq_true, Bool.or_eq_true, decide_eq_true_eq] at hc
 unfold bO_
 split
 ·rename_i k
  split
  ·rename_i q
   refine qI_ h hc.1 ?_ q
   rcases hc.2 with ⟨_, q2⟩ | ⟨q2, _⟩
   ·omega
   ·omega
  ·exact fW_
 ·exact tS_ h _ _
def dg_ (x : ae_) (n : ByteArray) (s : List ByteArray) : Int := if bh_ x.Nodes n s = true ∨ x.Nodes.length < 120 then 0 else 4
theorem ua_ {H : List Row} {n : Nat} {p q u v b : AV} {r : AV} {f : List Nat} {w : Value} (h : aP_ (Own H n) [p, b, .val w] [p, r, .val w] f) (v : Value) : aP_ (Own H n) [p, b, .val v] [p, r, .val v] f := by
 obtain ⟨d, ds, f1, f2, e1, rfl, h1, h2⟩ := h
 simp only [List.cons.injEq] at e1
 obtain ⟨rfl, rfl⟩ := e1
 obtain ⟨d, ds, f3, f4, e1, rfl, h3, h4⟩ := h2
 simp only [List.cons.injEq] at e1
 obtain ⟨rfl, rfl⟩ := e1
 obtain ⟨d, ds, f5, f6, e1, rfl, h5, h6⟩ := h4
 simp only [List.cons.injEq] at e1
 obtain ⟨rfl, rfl⟩ := e1
 obtain ⟨_, rfl⟩ := h6
 cases n with
 | zero => exact h5.elim
 | succ n =>
  obtain ⟨rfl, _⟩ := h5
  exact ⟨_, _, f1, _, rfl, rfl, h1, _, _, f3, _, rfl, rfl, h3, _, _, [], [], rfl, rfl, ⟨rfl, .inl rfl⟩, rfl, rfl⟩
theorem u8_ {l k : Nat} {ts : List Tr} {t' : Tr} (hk : k < ts.length) (hf : t'.f = ts[k].f) : ∀ y ∈ b7_ l (ts.set k t'), y ∈ b7_ l ts := by
 have hmap : (ts.set k t').map Tr.f = ts.map Tr.f := by
  rw [List.map_set, hf]
  apply List.ext_getElem?
  intro i
  rw [List.getElem?_set]
  split
  ·rename_i e
   subst e
   rw [if_pos (by simpa using hk), List.getElem?_map, List.getElem?_eq_getElem hk]; rfl
  ·rfl
 intro y hy
 unfold b7_ at hy ⊢
 rwa [hmap] at hy
def z5_ : LC :=
 .seq (.ops [.ki 8 0]) (.seq (.ops [.m 12 0, .nc 13 12, .ld 14 1 13, .m 15 1, .m 16 2, .c3 17 183 14 15 16, .m 11 17, .ex 18 11 0, .ex 19 11 1, .m 9 18, .m 10 19]) (.seq (.block 0 (.seq (.ops [.m 36 10, .m 35 36]) (.cond
 (.tmp 35) (.ops [.m 37 0, .nc 38 37, .fa 39 0 38, .ln 40 39, .m 41 9, .m 42 3, .ia 43 3 40 41, .fa 44 2 43, .st 1 44 42]) (.seq (.ops [.m 46 0, .nc 47 46, .fa 48 0 47, .ln 49 48, .ll 50 49, .bk 51 .eql false 50 120, .m
 45 51]) (.cond (.tmp 45) (.seq (.ops [.ki 8 4]) .ret) (.gops [.m 20 0, .m 21 0, .nc 22 21, .fa 23 0 22, .ln 24 23, .m 25 9, .m 26 1, .m 27 2, .m 29 3] [(.c1 28 144 27, [.m 20 0, .m 21 0, .nc 22 21, .fa 23 0 22, .ln 24
 23, .m 25 9, .m 26 1, .m 29 3]), (.s 30 (.build (.agg #[.string ⟨#[]⟩, .slice none 0 0, .string ⟨#[]⟩]) [(0, 1), (1, 1), (2, 1)] [(0, .tmp 26), (1, .tmp 28), (2, .tmp 29)]), [.m 20 0, .m 21 0, .nc 22 21, .fa 23 0 22, .ln
 24 23, .m 25 9]), (.s 31 (.buildSlice 112 3 (.agg #[.string ⟨#[]⟩, .slice none 0 0, .string ⟨#[]⟩]) 1 [(0, .tmp 30)]), [.m 20 0, .m 21 0, .nc 22 21, .fa 23 0 22, .ln 24 23, .m 25 9]), (.c3 32 184 24 25 31, [.m 20 0]),
 (.nc 33 20, []), (.fa 34 0 33, []), (.st 1 34 32, [])])))))) (.seq (.ops [.ki 8 0]) .ret)))
def vZ_ : LF := ⟨4, 52, z5_, [.tmp 8]⟩
theorem BY_ : ar_ Tryz.prog Tryz.f145 vZ_ := ah_
theorem kR_ {L lo : Nat} {H0 H : List Row} {x : ae_} {sa : AV} (B : d5_ L lo H0 x) (mH : aM_ H0 H) (n : ByteArray) (s : List ByteArray) (v : ByteArray) (hx : aE_ x = true) (hs : aq_ ByteArray.size s ≤ 1048576) (hsa : ∀ H' : List Row, (∀ y, H0.length ≤ y → y < H.length → H'[y]? = H[y]?) → cT_ H' sa (.list 0 1 (s.map ao_))) {K : AV → List Row → Prop}
 (hk : ∀ H' : List Row, H.length ≤ H'.length → (∀ y, y < lo → H'[y]? = H[y]?) → (dg_ x n s = 0 → d5_ L lo H' ⟨dB_ x.Nodes n s v⟩) → K (.val (.int .i64 (dg_ x n s))) H') :
 callSem Tryz.prog 145 [.ptr L 1 0 0, .val (.string n), sa, .val (.string v)] H K := by
 refine bD_ mixed Tryz.func145 BY_ (c7_ rfl ?_)
 have hlow := B.low
 have hlo0 := hlow.1
 have B1 := B.more mH
 obtain ⟨a, o, ca, hF⟩ := B1.arg
 obtain ⟨l, m, ts, b0, d⟩ := B
 have lows0 := b0.at'.lows
 have b := b0.more mH
 obtain ⟨a', o', hS⟩ := b.box
 obtain rfl : a = a' := by rw [o] at o'; simpa using o'
 have hL := (List.getElem?_eq_some_iff.1 o).1
 have hr := b.at'.row
 have hml := xb_ b.at'.le d
 have hxl := ht_ hx
 have hle := b.at'.le
 have hll := b.at'.lt
 have hlo := b.at'.lows l List.mem_cons_self
 have hLl : L ≠ l := fun q => b.out (by rw [q]; exact List.mem_cons_self)
 have mlen := mH.len
 have hpl : aa_ Tryz.prog 183 [.agg [a], .val (.string n), sa] H (.tup [.val (.int .i64 (bb_ x.Nodes n s)), .val (.bool (bh_ x.Nodes n s))]) := aa_.anyR rfl (fun h => g1_ x n s (c2_ hx) hs hx h) (aX_.cons hF.arg.any (aX_.cons (bp_.same rfl) (aX_.cons (hsa H fun _ _ _ => rfl).any aX_.nil)))
 simp (disch := (first | omega | (simp only [ls_, la_, lc_, ln_]; first | done | omega))) only [go_sem, Nat.reduceEqDiff, reduceCtorEq, ↓reduceIte, vZ_, z5_, o]
 refine aa_.call hpl ?_
 cases hf : bh_ x.Nodes n s
 case true =>
  obtain ⟨hp, e1, e2⟩ := jk_ hf
  have hpm : bb_ x.Nodes n s < m := by omega
  have hpt : bb_ x.Nodes n s < ts.length := by omega
  obtain ⟨c, g1, g2, g3⟩ := xD_ b.at' d hpm hpt hp
  have hC : dg_ x n s = 0 := by rw [dg_, if_pos (.inl hf)]
  rw [hC] at hk
  have fin : K (.val (.int .i64 0)) (H.set l ⟨.ty 112, 3, (ts.map Tr.c).set (bb_ x.Nodes n s) [.val (.string x.Nodes[bb_ x.Nodes n s].Name), c, .val (.string v)]⟩) := by
   refine hk _ (by simp) (fun y q1 => au_ (by omega)) (fun _ => ?_)
   have hset : (ts.map Tr.c).set (bb_ x.Nodes n s) [.val (.string x.Nodes[bb_ x.Nodes n s].Name), c, .val (.string v)] = (ts.set (bb_ x.Nodes n s) ⟨[.val (.string x.Nodes[bb_ x.Nodes n s].Name), c, .val (.string v)], [.val (.string x.Nodes[bb_ x.Nodes n s].Name), .list 0 1 (x.Nodes[bb_ x.Nodes n s].Subs.map ao_), .val (.string v)], ts[bb_ x.Nodes n s].f⟩).map Tr.c := by
    rw [List.map_set]
   rw [hset]
   refine ⟨l, m, _, ⟨⟨a, (au_ (Ne.symm hLl)).trans o, ?_⟩, b.at'.put hpt rfl ⟨rfl, ?_⟩ (fun k hk' => ?_), fun q => b.out (u8_ (t' := ⟨[.val (.string x.Nodes[bb_ x.Nodes n s].Name), c, .val (.string v)], [.val (.string x.Nodes[bb_ x.Nodes n s].Name), .list 0 1 (x.Nodes[bb_ x.Nodes n s].Subs.map ao_), .val (.string v)], ts[bb_ x.Nodes n s].f⟩) hpt rfl L q), b.lt⟩, ?_⟩
   ·rcases hS with rfl | ⟨rfl, q⟩
    ·exact .inl (by rw [ls_])
    ·exact .inr ⟨by rw [ls_], by rw [ls_]; exact q⟩
   ·simp only [List.all_cons, List.all_nil, g3, Bool.true_and, Bool.and_true]; rfl
   ·rw [g1, g2] at hk'
    exact ua_ (u := .undef) (v := .undef) (q := .undef) hk' _
   ·rw [oU_ hf, List.take_set, List.map_set, d, List.map_set, e1, e2]; rfl
  have hget : (ts.map Tr.c)[bb_ x.Nodes n s]? = some [.val (.string x.Nodes[bb_ x.Nodes n s].Name), c, .val (.string x.Nodes[bb_ x.Nodes n s].Value)] := by
   rw [List.getElem?_map, List.getElem?_eq_getElem hpt, Option.map_some, g1]
  rcases hS with rfl | ⟨rfl, rfl⟩
  ·simp (disch := (first | omega | (simp only [ls_, la_, lc_, ln_]; first | done | omega))) only [go_sem, Nat.reduceEqDiff, Nat.reduceAdd, reduceCtorEq, ↓reduceIte, o, hr, hget, hpm, List.length_map, Int.zero_add, Nat.zero_add]
   exact fin
  ·simp (disch := (first | omega | (simp only [ls_, la_, lc_, ln_]; first | done | omega))) only [go_sem, Nat.reduceEqDiff, Nat.reduceAdd, reduceCtorEq, ↓reduceIte, o, hr, hget, hpm, List.length_map, Nat.zero_add]
   exact fin
 by_cases h120 : x.Nodes.length = 120
 ·have hC : dg_ x n s = 4 := by rw [dg_, if_neg (by rw [hf, h120]; simp)]
  rw [hC] at hk
  have h120' : m = 120 := by omega
  have fin : K (.val (.int .i64 4)) H := hk _ (Nat.le_refl _) (fun _ _ => rfl) (fun q => by cases q)
  have t120 : ((m : Int) = 120) = True := eq_true (by omega)
  rcases hS with rfl | ⟨rfl, q⟩
  ·simp (disch := (first | omega | (simp only [ls_, la_, lc_, ln_]; first | done | omega))) only [go_sem, Nat.reduceEqDiff, reduceCtorEq, ↓reduceIte, o, hr, t120, List.length_map, Nat.sub_zero]
   exact fin
  ·have t120' : ((ts.length : Int) = 120) = True := eq_true (by omega)
   simp (disch := (first | omega | (simp only [ls_, la_, lc_, ln_]; first | done | omega))) only [go_sem, Nat.reduceEqDiff, reduceCtorEq, ↓reduceIte, o, hr, t120', List.length_map]
   exact fin
 have hC : dg_ x n s = 0 := by rw [dg_, if_pos (.inr (by omega))]
 rw [hC] at hk
 have h120' : ((m : Int) = 120) = False := eq_false (by omega)
 have hpm : bb_ x.Nodes n s ≤ m := by have := kL_ x.Nodes n s; omega
 have clone : ∀ K' : AV → List Row → Prop, (∀ (H1 : List Row) (cl : Nat), aM_ H H1 → FB H.length H1.length H1 (.own cl s.length) (.list 0 1 (s.map ao_)) → K' (.own cl s.length) H1) → callSem Tryz.prog 144 [sa] H K' := fun K' hK' => by
  refine es_ (bN_ s (at_ hs)) (aX_.cons (hsa H fun _ _ _ => rfl).any aX_.nil) (fun av H1 m1 F1 q1 => ?_)
  obtain ⟨cl, rfl⟩ := q1
  exact hK' H1 cl m1 F1
 have ins : ∀ (H1 : List Row) (cl : Nat), aM_ H H1 → FB H.length H1.length H1 (.own cl s.length) (.list 0 1 (s.map ao_)) → ∀ K' : AV → List Row → Prop, (∀ (av : AV) (H2 : List Row), ((∃ a b c, av = .sub a b 0 c) ∨ ∃ a b, av = .own a b) → H1.length ≤ H2.length → H2[L]? = some ⟨.ty 30, 1, [[a]]⟩ → K (.val (.int .i64 0)) (H2.set L ⟨.ty 30, 1, [[av]]⟩) → K' av H2) →
  callSem Tryz.prog 184 [.sub l ts.length 0 m, .val (.int .i64 (bb_ x.Nodes n s)), .own H1.length 1] (H1 ++ [⟨.ty 112, 3, [[.val (.string n), .own cl s.length, .val (.string v)]]⟩]) K' := by
  intro H1 cl m1 F1 K' hK'
  have l1 := m1.len
  have s1 := (b.at'.more m1).more (aM_.app H1 [⟨.ty 112, 3, [[.val (.string n), .own cl s.length, .val (.string v)]]⟩])
  have hN : aw_ H.length H1.length (H1 ++ [⟨.ty 112, 3, [[.val (.string n), .own cl s.length, .val (.string v)]]⟩]) [.val (.string n), .own cl s.length, .val (.string v)] (ab_.cells ⟨n, s, v⟩) :=
   aw_.val _ (aw_.cons (F1.tree.keep fun y _ q => ay_ q) (aw_.val _ (aw_.nil _ _ _)) ⟨l1, Nat.le_refl _⟩)
  refine g6_ s1 hpm (by omega) (aN_ rfl) hN ⟨rfl, fun r hr => ?_⟩ (fun y hy => (b.at'.lows y hy).2) (by omega) l1 (Nat.le_refl _) (fun av H2 l' ts' k1 k2 k3 k4 k5 k6 => ?_)
  ·simp only [ab_.cells, List.mem_cons, List.not_mem_nil, or_false] at hr
   rcases hr with rfl | rfl | rfl <;> rfl
  ·have hll' := (k3.lows l' List.mem_cons_self).1
   have k1' : H1.length + 1 ≤ H2.length := by simpa using k1
   have hL2 : H2[L]? = some ⟨.ty 30, 1, [[a]]⟩ := by
    rw [k2 L (by simp; omega) (by omega), ay_ (by omega), m1.kept L hL]; exact o
   refine hK' av H2 (by rcases k4 with q | ⟨q, _⟩; exact .inl ⟨_, _, _, q⟩; exact .inr ⟨_, _, q⟩) (by omega) hL2 (hk _ (by rw [ls_]; omega) (fun y q1 => ?_) (fun _ => ?_))
   ·rw [au_ (by omega), k2 y (by simp; omega) (by omega), ay_ (by omega), m1.kept y (by omega)]
   ·have hLf : ∀ y ∈ b7_ l' ts', L ≠ y := fun y hy q => by
     rcases k6 y hy with q2 | q2
     ·exact b.out (by rw [q]; exact q2)
     ·omega
    refine ⟨l', m + 1, ts', ⟨⟨av, aH_ (by omega), k4⟩, k3.keep (fun y hy => au_ (hLf y hy)) (by simp), fun q => hLf L q rfl, b.lt⟩, ?_⟩
    ·rw [k5, d, lD_ hf, List.map_append, List.map_cons, List.map_take, List.map_drop]
 rcases hS with rfl | ⟨rfl, q⟩
 ·simp (disch := (first | omega | (simp only [ls_, la_, lc_, ln_]; first | done | omega))) only [go_sem, Nat.reduceEqDiff, reduceCtorEq, ↓reduceIte, o, hr, h120', List.length_map, Nat.sub_zero]
  refine clone _ (fun H1 cl m1 F1 => ?_)
  have o1 := m1.at o
  have l1 := m1.len
  simp (disch := (first | omega | (simp only [ls_, la_, lc_, ln_]; first | done | omega))) only [ay_, go_sem, Nat.reduceEqDiff, Nat.reduceAdd, Nat.reduceLeDiff, reduceCtorEq, ↓reduceIte, o1, bM_, Option.map_some]
  refine ins H1 cl m1 F1 _ (fun av H2 cav k1 o2 hfin => ?_)
  rcases cav with ⟨a1, a2, a3, rfl⟩ | ⟨a1, a2, rfl⟩
  all_goals
   simp (disch := (first | omega | (simp only [ls_, la_, lc_, ln_]; first | done | omega))) only [go_sem, Nat.reduceEqDiff, reduceCtorEq, ↓reduceIte, o2]
   exact hfin
 ·have h120'' : ((ts.length : Int) = 120) = False := eq_false (by omega)
  simp (disch := (first | omega | (simp only [ls_, la_, lc_, ln_]; first | done | omega))) only [go_sem, Nat.reduceEqDiff, reduceCtorEq, ↓reduceIte, o, hr, h120'', List.length_map]
  refine clone _ (fun H1 cl m1 F1 => ?_)
  have o1 := m1.at o
  have l1 := m1.len
  simp (disch := (first | omega | (simp only [ls_, la_, lc_, ln_]; first | done | omega))) only [ay_, go_sem, Nat.reduceEqDiff, Nat.reduceAdd, Nat.reduceLeDiff, reduceCtorEq, ↓reduceIte, o1, bM_, Option.map_some]
  refine callSem.own_sub ?_
  have := ins H1 cl m1 F1
  rw [q] at this
  refine this _ (fun av H2 cav k1 o2 hfin => ?_)
  rcases cav with ⟨a1, a2, a3, rfl⟩ | ⟨a1, a2, rfl⟩
  all_goals
   simp (disch := (first | omega | (simp only [ls_, la_, lc_, ln_]; first | done | omega))) only [go_sem, Nat.reduceEqDiff, reduceCtorEq, ↓reduceIte, o2]
   exact hfin
def c97 : LC :=
 .seq (.ops [.s 2 (.box 79 (.tmp 0)), .s 3 (.box 79 (.tmp 1)), .s 4 (.mov (.const (.bool false)))]) (.seq (.ops [.fa 5 0 2, .ln 6 5, .fa 7 0 3, .ln 8 7, .bb 9 .eql false 6 8, .m 10 9, .g 11 10 true (.fieldAddr 1 (.tmp
 2)), .g 12 10 true (.load none (.tmp 11)), .g 13 10 true (.fieldAddr 1 (.tmp 3)), .g 14 10 true (.load none (.tmp 13)), .g 15 10 true (.bin .eql false (.tmp 12) (.tmp 14)), .pf 16 10 15, .m 17 16, .g 18 17 true
 (.fieldAddr 2 (.tmp 2)), .g 19 17 true (.load none (.tmp 18)), .g 20 17 true (.fieldAddr 2 (.tmp 3)), .g 21 17 true (.load none (.tmp 20)), .g 22 17 true (.call 147 [.tmp 19, .tmp 21]), .pf 23 17 22, .m 24 23, .g 25 24
 true (.fieldAddr 3 (.tmp 2)), .g 26 24 true (.load none (.tmp 25)), .g 27 24 true (.fieldAddr 3 (.tmp 3)), .g 28 24 true (.load none (.tmp 27)), .g 29 24 true (.bin .eql false (.tmp 26) (.tmp 28)), .pf 30 24 29, .m 31
 30, .g 32 31 true (.fieldAddr 4 (.tmp 2)), .g 33 31 true (.load none (.tmp 32)), .g 34 31 true (.fieldAddr 4 (.tmp 3)), .g 35 31 true (.load none (.tmp 34)), .g 36 31 true (.bin .eql false (.tmp 33) (.tmp 35)), .pf 37 31
 36, .m 4 37]) .ret)
def AR_ : LF := ⟨2, 38, c97, [.tmp 4]⟩
theorem Dm_ : ar_ Tryz.prog Tryz.f97 AR_ := ah_
def uK_ : LC :=
 .seq (.ops [.s 4 (.mov (.const (.bool false)))]) (.seq (.ops [.m 5 0, .ll 6 5, .m 7 1, .ll 8 7, .bb 9 .eql false 6 8, .m 10 9, .g 11 10 true (.mov (.tmp 0)), .g 12 10 true (.mov (.tmp 1)), .g 13 10 true (.call 164 [.tmp
 11, .tmp 12]), .pf 14 10 13, .m 4 14]) .ret)
def rJ_ : LF := ⟨2, 15, uK_, [.tmp 4]⟩
theorem zr_ : ar_ Tryz.prog Tryz.f126 rJ_ := ah_
def c82 : LC :=
 .seq (.ops [.s 2 (.box 79 (.tmp 0)), .s 3 (.box 79 (.tmp 1)), .s 4 (.mov (.const (.bool false)))]) (.seq (.ops [.fa 5 0 2, .ln 6 5, .fa 7 0 3, .ln 8 7, .bb 9 .eql false 6 8, .m 10 9, .g 11 10 true (.fieldAddr 1 (.tmp
 2)), .g 12 10 true (.load none (.tmp 11)), .g 13 10 true (.fieldAddr 1 (.tmp 3)), .g 14 10 true (.load none (.tmp 13)), .g 15 10 true (.bin .eql false (.tmp 12) (.tmp 14)), .pf 16 10 15, .m 17 16, .g 18 17 true
 (.fieldAddr 2 (.tmp 2)), .g 19 17 true (.load none (.tmp 18)), .g 20 17 true (.fieldAddr 2 (.tmp 3)), .g 21 17 true (.load none (.tmp 20)), .g 22 17 true (.call 126 [.tmp 19, .tmp 21]), .pf 23 17 22, .m 24 23, .g 25 24
 true (.fieldAddr 3 (.tmp 2)), .g 26 24 true (.load none (.tmp 25)), .g 27 24 true (.fieldAddr 3 (.tmp 3)), .g 28 24 true (.load none (.tmp 27)), .g 29 24 true (.bin .eql false (.tmp 26) (.tmp 28)), .pf 30 24 29, .m 31
 30, .g 32 31 true (.fieldAddr 4 (.tmp 2)), .g 33 31 true (.load none (.tmp 32)), .g 34 31 true (.fieldAddr 4 (.tmp 3)), .g 35 31 true (.load none (.tmp 34)), .g 36 31 true (.bin .eql false (.tmp 33) (.tmp 35)), .pf 37 31
 36, .m 4 37]) .ret)
def BB_ : LF := ⟨2, 38, c82, [.tmp 4]⟩
theorem C1_ : ar_ Tryz.prog Tryz.f82 BB_ := ah_
theorem hQ_ (xs ys : List ByteArray) (hx : xs.length ≤ 1048576) (h : List Row) : aa_ Tryz.prog 126 [.list 0 1 (xs.map ao_), .list 0 1 (ys.map ao_)] h (.val (.bool (a4_ xs ys))) := by
 refine ai_ mixed Tryz.func126 zr_ rfl rfl ?_ h
 by_cases hl : xs.length = ys.length
 ·have hl' : ((xs.length : Int) = (ys.length : Int)) = True := by simp [hl]
  simp (disch := omega) only [rJ_, uK_, hl', go_sem, Nat.reduceEqDiff, reduceCtorEq, ↓reduceIte]
  refine aa_.call (kQ_ xs ys hx _) ?_
  simp (disch := omega) only [go_sem, Nat.reduceEqDiff, ↓reduceIte]
  exact ad_ (qj_ xs ys hl)
 ·have hl' : ((xs.length : Int) = (ys.length : Int)) = False := by simp; omega
  simp (disch := omega) only [rJ_, uK_, hl', go_sem, Nat.reduceEqDiff, reduceCtorEq, ↓reduceIte]
  exact ad_ (by rw [a4_, eG_ _ _ _ hl])
def bo_ (x y : ac_) : Bool := decide (x.Kind = y.Kind) && decide (x.Name = y.Name) && a4_ x.Subs y.Subs && decide (x.Value = y.Value) && decide (x.N = y.N)
theorem kZ_ (x y : ac_) (hx : ac_.sz x ≤ 1048576) (h : List Row) : aa_ Tryz.prog 97 [.agg (ac_.cells x), .agg (ac_.cells y)] h (.val (.bool (bo_ x y))) := by
 refine ai_ mixed Tryz.func97 Dm_ rfl rfl ?_ h
 simp (disch := omega) only [AR_, c97, ac_.cells, go_sem, Nat.reduceEqDiff, Nat.reduceAdd, ↓reduceIte]
 by_cases e_Kind : x.Kind = y.Kind
 ·have q_Kind := eq_true e_Kind
  simp (disch := omega) only [q_Kind, go_sem, Nat.reduceEqDiff, ↓reduceIte]
  by_cases e_Name : x.Name = y.Name
  ·have q_Name := eq_true e_Name
   simp (disch := omega) only [q_Name, go_sem, Nat.reduceEqDiff, ↓reduceIte]
   first | refine aa_.call (b5_ x.Subs y.Subs (at_ (ac_.sz_Subs hx)) _) ?_ | refine aa_.q (b5_ x.Subs y.Subs (at_ (ac_.sz_Subs hx)) _) ?_
   by_cases q_Subs : a4_ x.Subs y.Subs = true
   ·skip
    simp (disch := omega) only [q_Subs, go_sem, Nat.reduceEqDiff, ↓reduceIte]
    by_cases e_Value : x.Value = y.Value
    ·have q_Value := eq_true e_Value
     simp (disch := omega) only [q_Value, go_sem, Nat.reduceEqDiff, ↓reduceIte]
     by_cases e_N : x.N = y.N
     ·have q_N := eq_true e_N
      simp (disch := omega) only [q_N, go_sem]
      exact ad_ (by simp [bo_, *])
     ·have q_N := eq_false e_N
      simp (disch := omega) only [q_N, go_sem]
      exact ad_ (by simp [bo_, *])
    ·have q_Value := eq_false e_Value
     simp (disch := omega) only [q_Value, go_sem, Nat.reduceEqDiff, ↓reduceIte]
     exact ad_ (by simp [bo_, *])
   ·replace q_Subs : a4_ x.Subs y.Subs = false := by simpa using q_Subs
    simp (disch := omega) only [q_Subs, go_sem, Nat.reduceEqDiff, ↓reduceIte]
    exact ad_ (by simp [bo_, *])
  ·have q_Name := eq_false e_Name
   simp (disch := omega) only [q_Name, go_sem, Nat.reduceEqDiff, ↓reduceIte]
   exact ad_ (by simp [bo_, *])
 ·have q_Kind := eq_false e_Kind
  simp (disch := omega) only [q_Kind, go_sem, Nat.reduceEqDiff, ↓reduceIte]
  exact ad_ (by simp [bo_, *])
theorem jl_ (x y : ac_) (hx : ac_.sz x ≤ 1048576) (h : List Row) : aa_ Tryz.prog 82 [.agg (ac_.cells x), .agg (ac_.cells y)] h (.val (.bool (bo_ x y))) := by
 refine ai_ mixed Tryz.func82 C1_ rfl rfl ?_ h
 simp (disch := omega) only [BB_, c82, ac_.cells, go_sem, Nat.reduceEqDiff, Nat.reduceAdd, ↓reduceIte]
 by_cases e_Kind : x.Kind = y.Kind
 ·have q_Kind := eq_true e_Kind
  simp (disch := omega) only [q_Kind, go_sem, Nat.reduceEqDiff, ↓reduceIte]
  by_cases e_Name : x.Name = y.Name
  ·have q_Name := eq_true e_Name
   simp (disch := omega) only [q_Name, go_sem, Nat.reduceEqDiff, ↓reduceIte]
   first | refine aa_.call (hQ_ x.Subs y.Subs (at_ (ac_.sz_Subs hx)) _) ?_ | refine aa_.q (hQ_ x.Subs y.Subs (at_ (ac_.sz_Subs hx)) _) ?_
   by_cases q_Subs : a4_ x.Subs y.Subs = true
   ·skip
    simp (disch := omega) only [q_Subs, go_sem, Nat.reduceEqDiff, ↓reduceIte]
    by_cases e_Value : x.Value = y.Value
    ·have q_Value := eq_true e_Value
     simp (disch := omega) only [q_Value, go_sem, Nat.reduceEqDiff, ↓reduceIte]
     by_cases e_N : x.N = y.N
     ·have q_N := eq_true e_N
      simp (disch := omega) only [q_N, go_sem]
      exact ad_ (by simp [bo_, *])
     ·have q_N := eq_false e_N
      simp (disch := omega) only [q_N, go_sem]
      exact ad_ (by simp [bo_, *])
    ·have q_Value := eq_false e_Value
     simp (disch := omega) only [q_Value, go_sem, Nat.reduceEqDiff, ↓reduceIte]
     exact ad_ (by simp [bo_, *])
   ·replace q_Subs : a4_ x.Subs y.Subs = false := by simpa using q_Subs
    simp (disch := omega) only [q_Subs, go_sem, Nat.reduceEqDiff, ↓reduceIte]
    exact ad_ (by simp [bo_, *])
  ·have q_Name := eq_false e_Name
   simp (disch := omega) only [q_Name, go_sem, Nat.reduceEqDiff, ↓reduceIte]
   exact ad_ (by simp [bo_, *])
 ·have q_Kind := eq_false e_Kind
  simp (disch := omega) only [q_Kind, go_sem, Nat.reduceEqDiff, ↓reduceIte]
  exact ad_ (by simp [bo_, *])
def dM_ (x : ac_) : aZ_ := ⟨if x.Kind = 3 then 2 else 1, x.Name, x.Subs, x.Value⟩
theorem rW_ {x : ac_} (k : x.Kind = 3) : dM_ x = ⟨2, x.Name, x.Subs, x.Value⟩ := by rw [dM_, if_pos k]
theorem rU_ {x : ac_} (k : ¬ x.Kind = 3) : dM_ x = ⟨1, x.Name, x.Subs, x.Value⟩ := by rw [dM_, if_neg k]
theorem k4_ {e : ac_} (h : bi_ e = true) (ht : bR_ e = true) : cI_ (dM_ e) = true := by
 have k5 : ¬ e.Kind = 5 := by
  intro k; simp [bR_, k] at ht
 have hth := gM_ h k5
 unfold bi_ at h
 simp only [Bool.and_eq_true] at h
 have hr := h.1.2
 simp only [bR_, Bool.or_eq_true, decide_eq_true_eq] at ht
 rcases ht with k | k
 ·rw [rU_ (by omega)]
  simp only [a8_, k, fn_] at hr
  simp at hr
  simp only [cI_, hth, Bool.true_and, Bool.or_eq_true, Bool.and_eq_true, decide_eq_true_eq]
  left; refine ⟨by simp, ?_⟩; have := hr.2; omega
 ·rw [rW_ k]
  simp only [a8_, k] at hr
  simp at hr
  simp only [cI_, hth, Bool.true_and, Bool.or_eq_true, Bool.and_eq_true, decide_eq_true_eq]
  right; exact ⟨by simp, hr.2⟩
def bw_ (x : ae_) (e : ac_) : ae_ × Int := if bR_ e = true then bO_ x (dM_ e) else (if bo_ (bc_ x e) e = true then (x, 0) else (⟨[]⟩, 5))
theorem kc_ {x : ae_} {e : ac_} (h : aE_ x = true) (hn : bi_ e = true) : aE_ (bw_ x e).1 = true := by
 unfold bw_
 split
 ·rename_i ht; exact rV_ h (k4_ hn ht)
 ·split
  ·exact h
  ·exact fW_
def b3_ : ae_ → List ac_ → Nat → ae_ × Int × Int
 | x, [], _ => (x, 0, 0)
 | x, e :: es, k => if (bw_ x e).2 = 0 then b3_ (bw_ x e).1 es (k + 1) else (⟨[]⟩, (k : Int), (bw_ x e).2)
theorem mn_ : ∀ (es : List ac_) (x : ae_) (k : Nat), aE_ x = true → (∀ e ∈ es, bi_ e = true) → aE_ (b3_ x es k).1 = true
 | [], x, k, h, _ => h
 | e :: es, x, k, h, hn => by
  unfold b3_
  split
  ·exact mn_ es _ _ (kc_ h (hn e (by simp))) (fun a ha => hn a (by simp [ha]))
  ·exact fW_
theorem kB_ {es : List ac_} (h : cX_ es = true) : es.length ≤ 60 ∧ ∀ e ∈ es, bi_ e = true := by
 simp only [cX_, Bool.and_eq_true, decide_eq_true_eq, List.all_eq_true] at h
 exact ⟨by omega, h.2⟩
def bu_ (x : ae_) (es : List ac_) : ae_ × Int × Int := if (aE_ x && cX_ es) = true then b3_ x es 0 else (⟨[]⟩, 0, 1)
theorem cm_ {α : Type} {es : List α} {k : Nat} (h : k < es.length) : es.drop k = es[k] :: es.drop (k + 1) := List.drop_eq_getElem_cons h
theorem hN_ {x : ae_} {es : List ac_} {k : Nat} (h : k < es.length) (h0 : (bw_ x es[k]).2 = 0) : b3_ x (es.drop k) k = b3_ (bw_ x es[k]).1 (es.drop (k + 1)) (k + 1) := by
 rw [cm_ h, b3_, if_pos h0]
theorem hW_ {x : ae_} {es : List ac_} {k : Nat} (h : k < es.length) (h0 : ¬ (bw_ x es[k]).2 = 0) : b3_ x (es.drop k) k = (⟨[]⟩, (k : Int), (bw_ x es[k]).2) := by
 rw [cm_ h, b3_, if_neg h0]
theorem k6_ {x : ae_} {es : List ac_} {k : Nat} (h : es.length ≤ k) : b3_ x (es.drop k) k = (x, 0, 0) := by
 rw [List.drop_eq_nil_of_le h, b3_]
theorem f6_ {h0 hn : List Row} {x1 x2 y1 y2 : Row} {k : Int} {n v : ByteArray} {s : List ByteArray} {l : Nat} (hf : fb_ (h0 ++ [y1, y2]).length ((h0 ++ [y1, y2]) ++ hn) (.own l s.length) (.list 0 1 (s.map ao_))) :
 fb_ h0.length (h0 ++ x1 :: x2 :: hn) (.agg [.val (.int .i64 k), .val (.string n), .own l s.length, .val (.string v)]) (.agg (aZ_.cells ⟨k, n, s, v⟩)) := by
 have hb := (hf.b.keep (H' := h0 ++ x1 :: x2 :: hn) fun l q1 q2 => Az_ q1).widen (lo' := h0.length) (hi' := (h0 ++ x1 :: x2 :: hn).length) (by simp) (by simp)
 exact (aA_.agg (aw_.val _ (aw_.val _ (aw_.cons hb (aw_.val _ (aw_.nil _ _ _)) ⟨by simp, Nat.le_refl _⟩)))).fresh
def c96 : LC :=
 .seq (.ops [.s 1 (.box 79 (.tmp 0)), .s 2 (.alloc 126 (.agg #[.int .i64 0, .string ⟨#[]⟩, .slice none 0 0, .string ⟨#[]⟩]))]) (.seq (.ops [.ki 3 1]) (.seq (.seq (.ops [.fa 4 0 1, .ln 5 4, .bk 6 .eql false 5 3]) (.cond
 (.tmp 6) (.ops [.ki 3 2]) .skip)) (.seq (.gops [.m 7 3, .fa 8 1 1, .ln 9 8, .fa 10 2 1, .ln 11 10, .fa 13 3 1, .ln 14 13] [(.c1 12 144 11, [.m 7 3, .fa 8 1 1, .ln 9 8, .fa 13 3 1, .ln 14 13]), (.s 15 (.build (.agg #[.int
 .i64 0, .string ⟨#[]⟩, .slice none 0 0, .string ⟨#[]⟩]) [(0, 1), (1, 1), (2, 1), (3, 1)] [(0, .tmp 7), (1, .tmp 9), (2, .tmp 12), (3, .tmp 14)]), []), (.st 4 2 15, [])]) .ret)))
def uw_ : LF := ⟨1, 16, c96, [.cell 2 (some 4)]⟩
theorem CQ_ : ar_ Tryz.prog Tryz.f96 uw_ := ah_
def tU_ : LC :=
 .seq (.ops [.s 1 (.box 79 (.tmp 0)), .s 2 (.alloc 126 (.agg #[.int .i64 0, .string ⟨#[]⟩, .slice none 0 0, .string ⟨#[]⟩]))]) (.seq (.ops [.ki 3 1]) (.seq (.seq (.ops [.fa 4 0 1, .ln 5 4, .bk 6 .eql false 5 3]) (.cond
 (.tmp 6) (.ops [.ki 3 2]) .skip)) (.seq (.gops [.m 7 3, .fa 8 1 1, .ln 9 8, .fa 10 2 1, .ln 11 10, .fa 13 3 1, .ln 14 13] [(.c1 12 85 11, [.m 7 3, .fa 8 1 1, .ln 9 8, .fa 13 3 1, .ln 14 13]), (.s 15 (.build (.agg #[.int
 .i64 0, .string ⟨#[]⟩, .slice none 0 0, .string ⟨#[]⟩]) [(0, 1), (1, 1), (2, 1), (3, 1)] [(0, .tmp 7), (1, .tmp 9), (2, .tmp 12), (3, .tmp 14)]), []), (.st 4 2 15, [])]) .ret)))
def sb_ : LF := ⟨1, 16, tU_, [.cell 2 (some 4)]⟩
theorem x0_ : ar_ Tryz.prog Tryz.f134 sb_ := ah_
theorem jY_ (x : ac_) (hx : ac_.sz x ≤ 1048576) : aS_ Tryz.prog 96 [.agg (ac_.cells x)] (.agg (aZ_.cells (dM_ x))) (fun a => ∃ l, a = .agg [.val (.int .i64 (dM_ x).Kind), .val (.string x.Name), .own l x.Subs.length, .val (.string x.Value)]) := by
 refine hX_ mixed Tryz.func96 CQ_ rfl (fun h0 => ?_)
 have h2 := at_ (ac_.sz_Subs hx)
 by_cases k3 : x.Kind = 3
 ·simp (disch := omega) only [uw_, c96, ac_.cells, k3, ag_, go_sem, Nat.reduceEqDiff, Nat.reduceAdd, ↓reduceIte]
  refine bN_ x.Subs h2 _ _ (fun av hn hf hq => ?_)
  obtain ⟨l, rfl⟩ := hq
  simp (disch := omega) only [bM_, Option.map_some, dj_, List.append_assoc, go_sem, Nat.reduceEqDiff, Nat.reduceAdd, Nat.reduceLeDiff, ↓reduceIte]
  rw [rW_ k3]
  exact ⟨_, rfl, f6_ hf, _, rfl⟩
 ·have k3' : (x.Kind = 3) = False := eq_false k3
  simp (disch := omega) only [uw_, c96, ac_.cells, k3', ag_, go_sem, Nat.reduceEqDiff, Nat.reduceAdd, ↓reduceIte]
  refine bN_ x.Subs h2 _ _ (fun av hn hf hq => ?_)
  obtain ⟨l, rfl⟩ := hq
  simp (disch := omega) only [bM_, Option.map_some, dj_, List.append_assoc, go_sem, Nat.reduceEqDiff, Nat.reduceAdd, Nat.reduceLeDiff, ↓reduceIte]
  rw [rU_ k3]
  exact ⟨_, rfl, f6_ hf, _, rfl⟩
theorem i9_ (x : ac_) (hx : ac_.sz x ≤ 1048576) : aS_ Tryz.prog 134 [.agg (ac_.cells x)] (.agg (aZ_.cells (dM_ x))) (fun a => ∃ l, a = .agg [.val (.int .i64 (dM_ x).Kind), .val (.string x.Name), .own l x.Subs.length, .val (.string x.Value)]) := by
 refine hX_ mixed Tryz.func134 x0_ rfl (fun h0 => ?_)
 have h2 := at_ (ac_.sz_Subs hx)
 by_cases k3 : x.Kind = 3
 ·simp (disch := omega) only [sb_, tU_, ac_.cells, k3, ag_, go_sem, Nat.reduceEqDiff, Nat.reduceAdd, ↓reduceIte]
  refine e3_ x.Subs h2 _ _ (fun av hn hf hq => ?_)
  obtain ⟨l, rfl⟩ := hq
  simp (disch := omega) only [bM_, Option.map_some, dj_, List.append_assoc, go_sem, Nat.reduceEqDiff, Nat.reduceAdd, Nat.reduceLeDiff, ↓reduceIte]
  rw [rW_ k3]
  exact ⟨_, rfl, f6_ hf, _, rfl⟩
 ·have k3' : (x.Kind = 3) = False := eq_false k3
  simp (disch := omega) only [sb_, tU_, ac_.cells, k3', ag_, go_sem, Nat.reduceEqDiff, Nat.reduceAdd, ↓reduceIte]
  refine e3_ x.Subs h2 _ _ (fun av hn hf hq => ?_)
  obtain ⟨l, rfl⟩ := hq
  simp (disch := omega) only [bM_, Option.map_some, dj_, List.append_assoc, go_sem, Nat.reduceEqDiff, Nat.reduceAdd, Nat.reduceLeDiff, ↓reduceIte]
  rw [rU_ k3]
  exact ⟨_, rfl, f6_ hf, _, rfl⟩
end Go.Proofs.YtfplhbjggecnpaaGreatDoor
