/-
 Contracts of functions of this program, over abstract values. Conditions: as each theorem says.
-/
import Derived.Test.YtfkddbkjmkceaaaGreatDoorFnWN
import Derived.Test.YtfkddbkjmkceaaaGreatDoorAwLaw3
namespace Go.Proofs.YtfkddbkjmkceaaaGreatDoor
open List
open Go.AW
set_option linter.unusedVariables false
set_option linter.unusedSimpArgs false
set_option maxRecDepth 4000
theorem pN_ {h0 rest hn : List Row} {r r' row : Row} {done ds : List (List AV)} {cs rs : List AV} (h1 : bv_ (h0.length + 1) (h0 ++ r :: rest).length (h0 ++ r :: rest) done ds) (h2 : dj_ (h0 ++ r :: rest).length ((h0 ++ r :: rest) ++ hn) (.agg cs) (.agg rs)) :
 bv_ (h0.length + 1) (h0 ++ r' :: (rest ++ (hn ++ [row]))).length (h0 ++ r' :: (rest ++ (hn ++ [row]))) (done ++ [cs]) (ds ++ [rs]) := by
 have hz := i8_ (r' := r') h1 h2
 have e : h0 ++ r' :: (rest ++ (hn ++ [row])) = (h0 ++ r' :: (rest ++ hn)) ++ [row] := by simp
 rw [e]
 exact (hz.keep fun l _ hl => getElem?_append_left hl).widen (Nat.le_refl _) (by simp)
def c38 : LC :=
 .q [.o [.nl 2], .o [.s 5 (.buildSlice 44 5 (.agg #[.int .i64 0, .string ⟨#[]⟩, .slice none 0 0, .string ⟨#[]⟩, .int .i64 0]) 0 []), .m 3 5], .q [.o [.ki 4 0], .block 0 (.loop (.q [.q [.o [.m 6 4, .m 7 0, .ll 8 7, .bb 9
 .lss false 6 8], .k 9 .skip (.exit 0)], .block 1 (.o [.m 12 3, .m 13 0, .m 14 4, .ia 15 5 13 14, .ld 16 5 15, .c1 17 39 16, .s 18 (.buildSlice 44 5 (.agg #[.int .i64 0, .string ⟨#[]⟩, .slice none 0 0, .string ⟨#[]⟩, .int
 .i64 0]) 1 [(0, .tmp 17)]), .ap 19 44 5 72 12 18, .m 3 19]), .o [.m 10 4, .bk 11 .add false 10 1, .m 4 11]]))], .o [.m 20 3, .m 2 20], .ret]
def B5_ : LF := ⟨1, 21, c38, [.tmp 2]⟩
theorem Du_ : au_ Tryz.prog Tryz.f38 B5_ := ah_
theorem hk_ (xs : List ab_) (hs : aq_ ab_.sz xs ≤ 1048576) {h0 : List Row} {K : AV → List Row → Prop} (hK : ∀ l (H' : List Row) (done : List (List AV)), az_ h0 H' → h0.length ≤ l → ck_ l H' 44 5 done (xs.map ab_.cells) → done.length = xs.length → K (.own l xs.length) H') :
 callSem Tryz.prog 38 [.list 0 5 (xs.map ab_.cells)] h0 K := by
 refine bg_ mixed Tryz.func38 Du_ (cg_ rfl ?_)
 have hx := aA_ hs
 have hm : ∀ x ∈ xs, ab_.sz x ≤ 1048576 := fun x hx => by have := cb_ (f := ab_.sz) hx; omega
 simp (disch := omega) only [B5_, c38, go_sem, ↓reduceIte]
 refine aQ_ (fun n t h => ∃ (k : Nat) (done : List (List AV)) (rest : List Row), t 0 = .list 0 5 (xs.map ab_.cells) ∧ t 3 = .own h0.length k ∧ t 4 = .val (.int .i64 k) ∧ h = h0 ++ ⟨44, 5, done⟩ :: rest ∧ n = xs.length - k ∧ k ≤ xs.length ∧ done.length = k ∧ bv_ (h0.length + 1) h.length h done ((xs.take k).map ab_.cells)) xs.length ?_ ?_
 ·exact ⟨0, [], [], rfl, rfl, rfl, rfl, rfl, Nat.zero_le _, rfl, .nil _ _ _⟩
 rintro J hJ n t h ⟨k, done, rest, t0, t3, t4, rfl, rfl, hk, hd, hF⟩
 by_cases hlt : k < xs.length
 ·have hltI : (k : Int) < xs.length := by omega
  simp (disch := omega) only [t0, t3, t4, hltI, ab_.cells, ag_, go_sem, Nat.reduceEqDiff, Nat.reduceAdd, reduceCtorEq, ↓reduceIte]
  refine fK_ xs[k] (hm _ (getElem_mem hlt)) _ _ (fun av hn hf hq => ?_)
  obtain ⟨l, rfl⟩ := hq
  simp (disch := omega) only [t4, hd, append_assoc, go_sem, Nat.reduceEqDiff, Nat.reduceAdd, Nat.reduceLeDiff, ↓reduceIte]
  refine ⟨by omega, by omega, xs.length - (k + 1), by omega, hJ _ _ _ ⟨k + 1, done ++ [[.val (.int .i64 xs[k].Kind), .val (.string xs[k].Name), .own l xs[k].Subs.length, .val (.string xs[k].Value), .val (.int .i64 xs[k].N)]], _, by simp [upd, t0], by simp [upd], by simp [upd], rfl, rfl, by omega, by simp [hd], ?_⟩⟩
  rw [take_succ_eq_append_getElem hlt, map_append]
  exact pN_ hF hf
 ·have hltI : ¬ (k : Int) < xs.length := by omega
  simp (disch := omega) only [t0, t3, t4, hltI, ag_, go_sem, Nat.reduceEqDiff, reduceCtorEq, ↓reduceIte]
  rw [take_of_length_le (by omega)] at hF
  have e : k = xs.length := by omega
  rw [e]
  exact hK _ _ _ (az_.app _ _) (Nat.le_refl _) ⟨by rw [cn_]; rfl, hF⟩ (by omega)
def c48 : LC :=
 .q [.o [.bx 1 36 0, .s 2 (.alloc 36 (.agg #[.int .i64 0, .int .i64 0, .slice none 0 0]))], .o [.fa 6 0 1, .ln 7 6, .fa 8 1 1, .ln 9 8, .s 10 (.build (.agg #[.int .i64 0, .int .i64 0, .slice none 0 0]) [(0, 1), (1, 1),
 (2, 1)] [(0, .tmp 7), (1, .tmp 9)]), .s 3 (.alloc 36 (.agg #[.int .i64 0, .int .i64 0, .slice none 0 0])), .st 3 3 10], .q [.o [.fa 11 2 1, .ln 12 11, .ll 13 12, .ki 14 0], .block 0 (.ghost (.loop (.q [.o [.bb 15 .lss
 false 14 13], .k 15 .skip (.exit 0), .block 1 (.q [.o [.ia 16 5 12 14, .ld 17 5 16, .s 5 (.alloc 44 (.agg #[.int .i64 0, .string ⟨#[]⟩, .slice none 0 0, .string ⟨#[]⟩, .int .i64 0])), .st 5 5 17], .gops [.fa 18 2 3, .ln
 19 18, .ld 20 5 5] [(.c1 21 49 20, [.fa 18 2 3, .ln 19 18]), (.s 22 (.buildSlice 44 5 (.agg #[.int .i64 0, .string ⟨#[]⟩, .slice none 0 0, .string ⟨#[]⟩, .int .i64 0]) 1 [(0, .tmp 21)]), [.fa 18 2 3, .ln 19 18]), (.ap 23
 44 5 72 19 22, []), (.fa 24 2 3, []), (.st 1 24 23, [])]]), .o [.bk 25 .add false 14 1, .m 14 25]])))], .o [.ld 26 3 3, .st 3 2 26], .ret]
def CG_ : LF := ⟨1, 27, c48, [.cell 2 (some 3)]⟩
theorem Dw_ : au_ Tryz.prog Tryz.f48 CG_ := ah_
theorem lh_ (x : at_) (hx : at_.sz x ≤ 1048576) {h0 : List Row} {K : AV → List Row → Prop} (hK : ∀ l (H' : List Row) (done : List (List AV)), az_ h0 H' → h0.length ≤ l → ck_ l H' 44 5 done (x.Events.map ab_.cells) → done.length = x.Events.length → K (.agg [.val (.int .i64 x.Depth), .val (.int .i64 x.Restarts), .own l x.Events.length]) H') :
 callSem Tryz.prog 48 [.agg (at_.cells x)] h0 K := by
 refine bg_ mixed Tryz.func48 Dw_ (cg_ rfl ?_)
 have hs := at_.sz_Events hx
 have hl := aA_ hs
 have hm : ∀ e ∈ x.Events, ab_.sz e ≤ 1048576 := fun e he => by have := cb_ (f := ab_.sz) he; omega
 simp (disch := omega) only [CG_, c48, at_.cells, bp_, Option.map_some, go_sem, Nat.reduceEqDiff, Nat.reduceAdd, Nat.reduceLeDiff, ↓reduceIte]
 refine kR_ (h0 ++ [⟨36, 3, [[.val (.int .i64 x.Depth), .val (.int .i64 x.Restarts), .list 0 5 (x.Events.map ab_.cells)]]⟩, ⟨36, 3, [[.val (.int .i64 0), .val (.int .i64 0), .val (.slice none 0 0)]]⟩, ⟨36, 3, [[.val (.int .i64 x.Depth), .val (.int .i64 x.Restarts), .own (h0.length + 3) 0]]⟩, ⟨44, 5, []⟩]) (fun t => n8_ (h0 ++ [⟨36, 3, [[.val (.int .i64 x.Depth), .val (.int .i64 x.Restarts), .list 0 5 (x.Events.map ab_.cells)]]⟩, ⟨36, 3, [[.val (.int .i64 0), .val (.int .i64 0), .val (.slice none 0 0)]]⟩]) [] (.ty 36) 3 [.val (.int .i64 x.Depth), .val (.int .i64 x.Restarts)] [] 44 5 (h0.length + 3) (by simp) (by simp) (by simp)) ?_
 refine aQ_ (fun n t h => ∃ (k : Nat) (done : List (List AV)), t 2 = .ptr (h0.length + 1) 1 0 0 ∧ t 3 = .ptr (h0.length + 2) 1 0 0 ∧ t 12 = .list 0 5 (x.Events.map ab_.cells) ∧ t 13 = .val (.int .i64 x.Events.length) ∧ t 14 = .val (.int .i64 k) ∧ az_ h0 h ∧
  h[h0.length + 1]? = some ⟨36, 3, [[.val (.int .i64 0), .val (.int .i64 0), .val (.slice none 0 0)]]⟩ ∧ h[h0.length + 2]? = some ⟨36, 3, [[.val (.int .i64 x.Depth), .val (.int .i64 x.Restarts), .own (h0.length + 3) k]]⟩ ∧
  ck_ (h0.length + 3) h 44 5 done ((x.Events.take k).map ab_.cells) ∧ done.length = k ∧ n = x.Events.length - k ∧ k ≤ x.Events.length) x.Events.length ?_ ?_
 ·exact ⟨0, [], rfl, rfl, rfl, rfl, rfl, az_.app _ _, by rw [bR_]; rfl, by rw [bR_]; rfl, ck_.zero (by rw [bR_]; rfl), rfl, rfl, Nat.zero_le _⟩
 rintro J hJ n t h ⟨k, done, t2, t3, t12, t13, t14, hM, o1, o2, hG, hd, rfl, hk⟩
 have o3 := hG.row
 by_cases hlt : k < x.Events.length
 ·have w2 := fun l => ap_ (l := l) o2
  have ml := hM.len
  have gl := hG.lt
  simp (disch := omega) only [t2, t3, t12, t13, t14, o2, w2, hlt, ab_.cells, ag_, go_sem, Nat.reduceEqDiff, Nat.reduceAdd, ↓reduceIte]
  refine be_ (eM_ x.Events[k] (hm _ (getElem_mem hlt))) (fun av H1 m1 F1 q1 => ?_)
  obtain ⟨l, rfl⟩ := q1
  have p1 := m1.at (ap_ o1)
  have p2 := m1.at (ap_ o2)
  have p3 := m1.at (ap_ o3)
  have v1 := fun l => ap_ (l := l) p1
  have v2 := fun l => ap_ (l := l) p2
  have v3 := fun l => ap_ (l := l) p3
  have l1 := m1.len
  simp only [la_, lc_, ln_] at l1
  have z2 := fun r l => rI_ (l := l) (i := h0.length + 3) p2 r (by omega)
  simp (disch := omega) only [t3, t14, p2, v2, v3, z2, hd, qj_, set_append_left, go_sem, Nat.reduceEqDiff, Nat.reduceAdd, Nat.reduceLeDiff, ↓reduceIte]
  refine ⟨by omega, by omega, x.Events.length - (k + 1), by omega, hJ _ _ _ ⟨k + 1, done ++ [[.val (.int .i64 x.Events[k].Kind), .val (.string x.Events[k].Name), .own l x.Events[k].Subs.length, .val (.string x.Events[k].Value), .val (.int .i64 x.Events[k].N)]], by simp [upd, t2], by simp [upd, t3], by simp [upd, t12], by simp [upd, t13], by simp [upd], ?_, ?_, ?_, ?_, ?_, rfl, by omega⟩⟩
  ·exact ((((hM.add _).trans m1).set (by omega)).set (by omega)).add _
  ·exact ap_ (by rw [getElem?_set_ne (by omega), getElem?_set_ne (by omega)]; exact p1)
  ·exact rD_ (by rw [getElem?_set_ne (by omega)]; exact p2) _
  ·rw [take_succ_eq_append_getElem hlt, map_append]
   refine (hG.more (H' := h ++ [_]) (by simp) (fun y q1 q2 => getElem?_append_left q2)).step F1.tree.unagg m1.len (fun y q1 q2 => m1.kept y q2) (by simp) (fun y q1 q2 => ?_) ?_
   ·rw [getElem?_append_left (by simpa using q2), getElem?_set_ne (by omega), getElem?_set_ne (by omega)]
   ·exact ap_ (by rw [getElem?_set_ne (by omega)]; exact e7_ p3 _)
  ·simp [hd]
 ·have u1 := fun r => e7_ o1 r
  simp (disch := omega) only [t2, t3, t12, t13, t14, o1, o2, u1, hlt, ag_, go_sem, Nat.reduceEqDiff, Nat.reduceAdd, ↓reduceIte]
  have e : k = x.Events.length := by omega
  subst e
  rw [take_length] at hG
  exact hK _ _ _ (hM.set (by omega)) (by omega) (hG.more (by simp) (fun y q1 q2 => by rw [getElem?_set_ne (by omega)])) hd
def qi_ (H : List Row) (b : AV) : Prop := ∃ (l k : Nat) (es : List (List AV)), H[l]? = some ⟨93, 3, es⟩ ∧ (∀ e ∈ es, e.length = 3 ∧ e.all AV.cell = true) ∧ (b = .own l k ∨ ∃ m, m ≤ k ∧ b = .sub l k 0 m)
theorem iZ_ {X Y : List Row} {n : Nat} {b r : AV} {fs : List Nat} (ho : Own X n b r fs) (hk : ∀ l ∈ fs, Y[l]? = X[l]?) (hN : qi_ X b) : qi_ Y b := by
 obtain ⟨l, k, es, hr, hw, hb⟩ := hN
 refine ⟨l, k, es, ?_, hw, hb⟩
 rw [hk l ?_]
 ·exact hr
 cases n with
 | zero => exact ho.elim
 | succ n =>
  rcases hb with rfl | ⟨m, hm, rfl⟩ <;> (obtain ⟨row, es1, f, _, _, _, _, rfl⟩ := ho; exact mem_cons_self)
def kY_ (a : AV) (H : List Row) : Prop := ∃ b, b.cell = true ∧ ∃ v, a = .tup [.agg [b], .val (.int .i64 v)] ∧ (v = 0 → qi_ H b)
theorem tr_ {r : AV} (n : Nat) (av : AV) (fs : List Nat) (X Y : List Row) (ho : Own X n av r fs) (hk : ∀ l ∈ fs, Y[l]? = X[l]?) : kY_ av X → kY_ av Y := by
 rintro ⟨b, cb, v, rfl, hN⟩
 refine ⟨b, cb, v, rfl, fun q => ?_⟩
 cases n with
 | zero => exact ho.elim
 | succ n =>
  obtain ⟨ds, h1, _⟩ := ho
  obtain ⟨d, ds', f, f', rfl, rfl, h2, h3⟩ := h1
  cases n with
  | zero => exact h2.elim
  | succ n =>
   obtain ⟨ds2, h4, _⟩ := h2
   obtain ⟨d2, ds3, f2, f3, rfl, rfl, h5, h6⟩ := h4
   exact iZ_ h5 (fun l hl => hk l (by simp [hl])) (hN q)
theorem c9_.argN {L lo : Nat} {H : List Row} {x : ae_} (B : c9_ L lo H x) : ∃ a, H[L]? = some ⟨41, 1, [[a]]⟩ ∧ a.cell = true ∧ aB_ lo H.length H (.agg [a]) (.agg (ae_.cells x)) ∧ qi_ H a := by
 obtain ⟨l, m, ts, b, d⟩ := B
 obtain ⟨a, h1, h2⟩ := b.box
 have h3 := b.at'.freshS h2
 rw [d] at h3
 have := b.at'.lows l mem_cons_self
 refine ⟨a, h1, h2.cell, aB_.agg (am_.cons h3 (am_.nil _ _ _) ⟨by omega, Nat.le_refl _⟩), l, ts.length, _, b.at'.row, fun e he => ?_, ?_⟩
 ·obtain ⟨t, ht, q⟩ := mem_map.1 he; subst q; exact b.at'.wide t ht
 ·rcases h2 with rfl | ⟨rfl, _⟩
  ·exact .inr ⟨m, b.at'.le, rfl⟩
  ·exact .inl rfl
theorem c9_.ofN {L lo hi : Nat} {b : AV} {H : List Row} {x : ae_} (hL : H[L]? = some ⟨41, 1, [[b]]⟩) (hlt : lo ≤ L) (hhi : hi ≤ L) (hF : aB_ lo hi H (.agg [b]) (.agg (ae_.cells x))) (hN : qi_ H b) : c9_ L lo H x := by
 have hL2 := (List.getElem?_eq_some_iff.1 hL).1
 obtain ⟨l, k, es, hr, hw, hb⟩ := hN
 have h1 : aB_ lo hi H b (.list 0 3 (x.Nodes.map ac_.cells)) := hF.unagg.head
 obtain ⟨n, fs, o1, o2, o3⟩ := h1
 cases n with
 | zero => exact o1.elim
 | succ n =>
  rcases hb with rfl | ⟨m, hm, rfl⟩
  all_goals
   obtain ⟨row, es1, f, q1, q2, q3, q4, rfl⟩ := o1
   rw [hr] at q1
   obtain rfl := Option.some.inj q1
   simp only [AV.list.injEq, true_and] at q4
   obtain ⟨ts, r1, r2, rfl, r4⟩ := a2_.trs q3
   have r1' : ts.map Tr.c = es := r1
   have hl : k = ts.length := by rw [← q2, ← r1]; simp
   have hw' : ∀ t ∈ ts, t.c.length = 3 ∧ t.c.all AV.cell = true := fun t ht => hw t.c (by rw [← r1']; exact mem_map.2 ⟨t, ht, rfl⟩)
  ·have s : bS_ lo H 93 3 l ts.length ts := ⟨by rw [r1']; exact hr, Nat.le_refl _, hw', ⟨n, r4⟩, o2, fun y hy => by have := o3 y hy; omega⟩
   exact ⟨l, ts.length, ts, ⟨⟨_, hL, .inr ⟨by rw [hl], rfl⟩⟩, s, fun q => by have := o3 L q; omega, hlt⟩, by rw [take_length, r2, q4]⟩
  ·have s : bS_ lo H 93 3 l m ts := ⟨by rw [r1']; exact hr, by omega, hw', ⟨n, r4⟩, o2, fun y hy => by have := o3 y hy; omega⟩
   exact ⟨l, m, ts, ⟨⟨_, hL, .inl (by rw [hl])⟩, s, fun q => by have := o3 L q; omega, hlt⟩, by rw [map_take, r2]; simpa using q4.symm⟩
theorem kE_ (x : ae_) (cs : List aF_) (hx : ae_.sz x ≤ 1048576) (he : aq_ aF_.sz cs ≤ 1048576) : fp_ Tryz.prog 96 [.agg (ae_.cells x), .list 0 4 (cs.map aF_.cells)] (cN_ (bi_ x cs)) kY_ := by
 refine ll_ mixed Tryz.func96 Dr_ rfl (fun h0 => ?_)
 have htr : ∀ H, aa_ Tryz.prog 43 [.agg [.list 0 3 (x.Nodes.map ac_.cells)]] H (.val (.bool (aJ_ x))) := fun H => fz_ x hx H
 have hcp : fp_ Tryz.prog 60 [.agg [.list 0 3 (x.Nodes.map ac_.cells)]] (.agg (ae_.cells x)) _ := lA_ x hx
 have hl := aA_ he
 simp (disch := (first | omega | (simp only [ls_, la_, lc_, ln_]; first | done | omega))) only [aH_, go_sem, Nat.reduceEqDiff, ↓reduceIte, Al_, c96, ae_.cells]
 refine aa_.call (htr _) ?_
 by_cases q1 : aJ_ x = true
 case neg =>
  have q1' : aJ_ x = false := by simpa using q1
  have hR : bi_ x cs = (⟨[]⟩, 1) := by simp [bi_, q1']
  simp (disch := (first | omega | (simp only [ls_, la_, lc_, ln_]; first | done | omega))) only [bK_, go_sem, Nat.reduceEqDiff, ↓reduceIte, q1', bp_, Option.map_some, aT_]
  rw [hR]
  exact ⟨⟨by first | exact az_.app _ _ | exact (az_.app _ _).set (by omega), c5_ (hy_ (by simp)) (by simp) _⟩, _, rfl, _, rfl, fun q => absurd q (by decide)⟩
 by_cases q2 : (cs.length : Int) ≤ 120
 case neg =>
  have q2' : ((120 : Int) < (cs.length : Int)) = True := eq_true (by omega)
  have hR : bi_ x cs = (⟨[]⟩, 4) := by rw [bi_, if_pos q1, if_neg q2]
  simp (disch := (first | omega | (simp only [ls_, la_, lc_, ln_]; first | done | omega))) only [bK_, go_sem, Nat.reduceEqDiff, ↓reduceIte, q1, q2', bp_, Option.map_some, aT_]
  rw [hR]
  exact ⟨⟨by first | exact az_.app _ _ | exact (az_.app _ _).set (by omega), c5_ (hy_ (by simp)) (by simp) _⟩, _, rfl, _, rfl, fun q => absurd q (by decide)⟩
 have q2' : ((120 : Int) < (cs.length : Int)) = False := eq_false (by omega)
 have hR : bi_ x cs = d0_ x cs := by rw [bi_, if_pos q1, if_pos q2]
 rw [hR]
 simp (disch := (first | omega | (simp only [ls_, la_, lc_, ln_]; first | done | omega))) only [aH_, go_sem, Nat.reduceEqDiff, ↓reduceIte, q1, q2']
 refine hcp _ _ (fun av H1 m1 F1 q3 => ?_)
 obtain ⟨l, rfl, es1, hrow⟩ := q3
 have l1 := m1.len
 have p1 := m1.at (i := h0.length + 1) (by rw [bR_]; rfl)
 simp only [la_, lc_, ln_] at l1
 have m0 : az_ h0 H1 := (az_.app h0 _).trans m1
 have hrl := (List.getElem?_eq_some_iff.1 hrow).1
 have B0 : c9_ H1.length (h0.length + 2) (H1 ++ [⟨41, 1, [[.own l x.Nodes.length]]⟩]) x := c9_.of (hi := H1.length) (aH_ rfl) (by omega) (Nat.le_refl _) ((F1.tree.keep fun y _ q => ax_ q).widen (by simp) (Nat.le_refl _)) ((ax_ hrl).trans hrow)
 simp (disch := (first | omega | (simp only [ls_, la_, lc_, ln_]; first | done | omega))) only [aH_, go_sem, Nat.reduceEqDiff, ↓reduceIte]
 refine aQ_ (fun n t h => ∃ (k : Nat) (y : ae_), t 4 = .ptr (h0.length + 1) 1 0 0 ∧ t 6 = .ptr H1.length 1 0 0 ∧ t 22 = .list 0 4 (cs.map aF_.cells) ∧ t 23 = .val (.int .i64 cs.length) ∧ t 24 = .val (.int .i64 k) ∧ az_ h0 h ∧ h[h0.length + 1]? = some ⟨41, 1, [[.val (.slice none 0 0)]]⟩ ∧
  c9_ H1.length (h0.length + 2) h y ∧ aJ_ y = true ∧ d0_ x cs = d0_ y (cs.drop k) ∧ n = cs.length - k ∧ k ≤ cs.length) cs.length ?_ ?_
 ·refine ⟨0, x, rfl, rfl, rfl, rfl, rfl, ?_, ?_, ?_, q1, rfl, rfl, Nat.zero_le _⟩
  ·first | exact m0.add _ | exact (m0.add _).set (by omega)
  ·(repeat (first | rw [al_ (by omega)] | rw [ax_ (by first | omega | (simp only [ls_, la_, lc_, ln_]; omega))])); exact p1
  ·first | exact B0 | (refine cast ?_ B0; congr 1; simp)
 rintro J hJ n t h ⟨k, y, t4, t6, t22, t23, t24, hM, o1, B, hy, hS, rfl, hk⟩
 have ml := hM.len
 have hlow := B.low
 have hol := (List.getElem?_eq_some_iff.1 o1).1
 by_cases hlt : k < cs.length
 ·have hzk : aF_.sz cs[k] ≤ 1048576 := cq_ he (getElem_mem hlt)
  have hok : ∀ H, aa_ Tryz.prog 135 [.agg [.val (.int .i64 cs[k].Kind), .val (.string cs[k].Name), .list 0 1 (cs[k].Subs.map aj_), .val (.string cs[k].Value)]] H (.val (.bool (bG_ cs[k]))) := fun H => lU_ cs[k] hzk H
  simp (disch := (first | omega | (simp only [ls_, la_, lc_, ln_]; first | done | omega))) only [aH_, go_sem, Nat.reduceEqDiff, Nat.reduceAdd, ↓reduceIte, t22, t23, t24, hlt, aF_.cells]
  refine aa_.call (hok _) ?_
  by_cases hc0 : bG_ cs[k] = true
  case neg =>
   have hc0' : bG_ cs[k] = false := by simpa using hc0
   simp (disch := (first | omega | (simp only [ls_, la_, lc_, ln_]; first | done | omega))) only [aD_, ax_, go_sem, Nat.reduceEqDiff, ↓reduceIte, t4, o1, hc0', bp_, Option.map_some, aT_]
   rw [hS, vd_ hlt hc0']
   exact ⟨⟨by first | exact (hM.add _).set (by omega) | exact ((hM.add _).set (by omega)).set (by omega), c5_ (hy_ (by simp; omega)) (by simp; omega) _⟩, _, rfl, _, rfl, fun q => absurd q (by decide)⟩
  simp (disch := (first | omega | (simp only [ls_, la_, lc_, ln_]; first | done | omega))) only [aH_, go_sem, Nat.reduceEqDiff, Nat.reduceAdd, ↓reduceIte, t6, hc0]
  refine gx_ B (by first | exact az_.app _ _ | exact (az_.app _ _).set (by simp)) cs[k] hy (aF_.sz_Subs hzk) (.inl rfl) (fun _ _ => bT_.same rfl) (fun H2 k1 k2 k3 => ?_)
  simp only [la_, lc_, ln_] at k1
  have o2 : H2[h0.length + 1]? = some ⟨41, 1, [[.val (.slice none 0 0)]]⟩ := by
   rw [k2 _ (by omega)]; (repeat (first | rw [al_ (by omega)] | rw [ax_ (by first | omega | (simp only [ls_, la_, lc_, ln_]; omega))])); exact o1
  have hM2 : az_ h0 H2 := ⟨by omega, fun z q => by
   rw [k2 z (by omega)]; (repeat (first | rw [al_ (by omega)] | rw [ax_ (by first | omega | (simp only [ls_, la_, lc_, ln_]; omega))])); exact hM.kept z q⟩
  by_cases hc : (bz_ y cs[k]).2 = 0
  ·simp (disch := (first | omega | (simp only [ls_, la_, lc_, ln_]; first | done | omega))) only [go_sem, Nat.reduceEqDiff, ↓reduceIte, t24, hc]
   exact ⟨cs.length - (k + 1), by omega, hJ _ _ _ ⟨k + 1, (bz_ y cs[k]).1, by simp [upd, t4], by simp [upd, t6], by simp [upd, t22], by simp [upd, t23], by simp [upd], hM2, o2, k3 hc, jG_ hy hc0, by rw [hS, tK_ hlt hc0 hc], rfl, by omega⟩⟩
  ·have hc' : ((bz_ y cs[k]).2 = 0) = False := eq_false hc
   simp (disch := (first | omega | (simp only [ls_, la_, lc_, ln_]; first | done | omega))) only [aD_, go_sem, Nat.reduceEqDiff, ↓reduceIte, t4, o2, hc', bp_, Option.map_some, aT_]
   rw [hS, tW_ hlt hc0 hc]
   exact ⟨⟨by first | exact hM2 | exact hM2.set (by omega), c5_ (hy_ (by simp; omega)) (by simp; omega) _⟩, _, rfl, _, rfl, fun q => absurd q hc⟩
 ·obtain ⟨a, o, ca, hF, hN⟩ := B.argN
  have ca' := ca
  simp only [AV.cell, Value.oneCell'] at ca'
  simp (disch := (first | omega | (simp only [ls_, la_, lc_, ln_]; first | done | omega))) only [aD_, go_sem, Nat.reduceEqDiff, ↓reduceIte, t4, t6, t23, t24, o, o1, ca', hlt, aT_]
  rw [hS, pf_ (by omega)]
  obtain ⟨z, fs, z1, z2, z3⟩ := hF.unagg.head
  exact ⟨⟨hM.set (by omega), c5_ ((hF.keep fun z q _ => al_ (by omega)).widen (by omega) (by simp)) (by simp; omega) _⟩, _, ca, _, rfl, fun _ => iZ_ z1 (fun y hy => al_ (by have := z3 y hy; omega)) hN⟩
theorem mB_ (x : ae_) (t : at_) (hx : ae_.sz x ≤ 1048576) (ht : at_.sz t ≤ 1048576) : fp_ Tryz.prog 46 [.agg (ae_.cells x), .agg (at_.cells t)] (cN_ (f5_ x t)) kY_ := by
 refine ll_ mixed Tryz.func46 Dl_ rfl (fun h0 => ?_)
 have htr : ∀ H, aa_ Tryz.prog 43 [.agg [.list 0 3 (x.Nodes.map ac_.cells)]] H (.val (.bool (aJ_ x))) := fun H => fz_ x hx H
 have hto : ∀ H, aa_ Tryz.prog 44 [.agg [.val (.int .i64 t.Depth), .val (.int .i64 t.Restarts), .list 0 5 (t.Events.map ab_.cells)]] H (.val (.bool (cB_ t))) := fun H => iK_ t ht H
 simp (disch := (first | omega | (simp only [ls_, la_, lc_, ln_]; first | done | omega))) only [aH_, go_sem, Nat.reduceEqDiff, Nat.reduceAdd, ↓reduceIte, AN_, c46, ae_.cells, at_.cells]
 refine aa_.call (htr _) ?_
 by_cases q1 : aJ_ x = true
 case neg =>
  have q1' : aJ_ x = false := by simpa using q1
  have hR : f5_ x t = (⟨[]⟩, 1) := by simp [f5_, q1']
  simp (disch := (first | omega | (simp only [ls_, la_, lc_, ln_]; first | done | omega))) only [fj_, go_sem, Nat.reduceEqDiff, ↓reduceIte, q1', bp_, Option.map_some, aT_]
  rw [hR]
  exact ⟨⟨by first | exact az_.app _ _ | exact (az_.app _ _).set (by omega), c5_ (hy_ (by simp)) (by simp) _⟩, _, rfl, _, rfl, fun q => absurd q (by decide)⟩
 simp (disch := (first | omega | (simp only [ls_, la_, lc_, ln_]; first | done | omega))) only [bK_, go_sem, Nat.reduceEqDiff, Nat.reduceAdd, ↓reduceIte, q1]
 refine aa_.call (hto _) ?_
 by_cases q2 : cB_ t = true
 case neg =>
  have q2' : cB_ t = false := by simpa using q2
  have hR : f5_ x t = (⟨[]⟩, 1) := by simp [f5_, q2']
  simp (disch := (first | omega | (simp only [ls_, la_, lc_, ln_]; first | done | omega))) only [fj_, go_sem, Nat.reduceEqDiff, ↓reduceIte, q2', bp_, Option.map_some, aT_]
  rw [hR]
  exact ⟨⟨by first | exact az_.app _ _ | exact (az_.app _ _).set (by omega), c5_ (hy_ (by simp)) (by simp) _⟩, _, rfl, _, rfl, fun q => absurd q (by decide)⟩
 have hR : f5_ x t = bi_ x (a8_ t.Events) := by simp [f5_, q1, q2]
 rw [hR]
 have hze := at_.sz_Events ht
 simp (disch := (first | omega | (simp only [ls_, la_, lc_, ln_]; first | done | omega))) only [aH_, bK_, go_sem, Nat.reduceEqDiff, ↓reduceIte, q2]
 refine be_ (jN_ t.Events hze) (fun av H1 m1 F1 q3 => ?_)
 obtain ⟨l, rfl⟩ := q3
 have l1 := m1.len
 simp only [la_, lc_, ln_] at l1
 have p0 := m1.at (i := h0.length) (by rw [cn_]; rfl)
 have p2 := m1.at (i := h0.length + 2) (by rw [bR_]; rfl)
 simp (disch := (first | omega | (simp only [ls_, la_, lc_, ln_]; first | done | omega))) only [go_sem, Nat.reduceEqDiff, ↓reduceIte, p0]
 refine qB_ (kE_ x (a8_ t.Events) hx (Nat.le_trans (p8_ _) hze)) tr_ (fun S w xs m hr => (aZ_.cons (cj_.same rfl) (aZ_.cons F1.arg.any aZ_.nil)).rep m hr) (fun av H2 m2 F2 q4 => ?_)
 obtain ⟨b, cb, v, rfl, hN⟩ := q4
 obtain ⟨G, hv⟩ := F2.two
 simp only [AV.val.injEq, Value.int.injEq, true_and] at hv
 subst hv
 have cb' := cb
 simp only [AV.cell, Value.oneCell'] at cb'
 have l2 := m2.len
 have p3 := m2.at p2
 simp (disch := (first | omega | (simp only [ls_, la_, lc_, ln_]; first | done | omega))) only [aD_, go_sem, Nat.reduceEqDiff, ↓reduceIte, p3, cb', aT_]
 obtain ⟨z, fs, z1, z2, z3⟩ := G.tree.unagg.head
 exact ⟨⟨(((az_.app h0 _).trans m1).trans m2).set (by omega), c5_ ((G.tree.keep fun z q _ => al_ (by omega)).widen (by omega) (by simp)) (by simp; omega) _⟩, _, cb, _, rfl, fun q => iZ_ z1 (fun y hy => al_ (by have := z3 y hy; omega)) (hN q)⟩
def bJ_ : at_ := ⟨0, 0, []⟩
def bd_ (x : ae_) (t : at_) (e : ab_) : at_ × Int :=
 if (aJ_ x && cB_ t && bm_ e) = true then
  (if t.Depth = 0 then (bJ_, 17) else if t.Events.length = 60 then (bJ_, 4)
   else if (bi_ x (a8_ t.Events)).2 = 0 then
    (if (cJ_ (bi_ x (a8_ t.Events)).1 e).2 = 0 then (⟨t.Depth, t.Restarts, t.Events ++ [e]⟩, 0) else (bJ_, (cJ_ (bi_ x (a8_ t.Events)).1 e).2))
    else (bJ_, (bi_ x (a8_ t.Events)).2))
 else (bJ_, 1)
theorem rk_ {e : ab_} (h : bm_ e = true) : e.Value.size ≤ 300 := by
 have h2 : bk_ e = true := by
  simp only [bm_, Bool.and_eq_true] at h; exact h.1.2
 have nil : ∀ v : ByteArray, v = txt [] → v.size ≤ 300 := by rintro _ rfl; rw [b4_]; simp
 have lng : ∀ v : ByteArray, eJ_ v = false → v.size ≤ 300 := fun v q => by
  simp only [eJ_, decide_eq_false_iff_not] at q; omega
 have got : ∀ v : ByteArray, (dz_ v).2 = true → v.size ≤ 300 := fun v q => by
  unfold dz_ at q
  cases hg : fL_ dx_ (bs v) with
  | none => rw [hg] at q; cases q
  | some xs =>
   obtain ⟨q1, q2⟩ := (gU_ iv_ _ _).1 hg
   simp only [en_, Bool.and_eq_true, decide_eq_true_eq, all_eq_true, vV_] at q1
   have hlen : ∀ ys : List (List UInt8), (∀ y ∈ ys, y.length ≤ 24) → (cM_ ys).length ≤ 57 * ys.length := by
    intro ys
    induction ys with
    | nil => intro _; simp [me_]
    | cons y ys ih =>
     intro hy
     have h1 := hz_ y
     have h2 := hy y (by simp)
     have h3 := ih fun z hz => hy z (by simp [hz])
     rw [kW_, la_, lc_]
     omega
   have h5 := hlen xs fun y hy => (q1.2 y hy).2
   have h6 : v.size = (bs v).length := by simp [bs]
   rw [h6, ← q2]
   omega
 unfold bk_ at h2
 by_cases k1 : e.Kind = 1
 ·rw [if_pos k1] at h2; simp only [Bool.and_eq_true, Bool.not_eq_true'] at h2; exact lng _ h2.1.2
 rw [if_neg k1] at h2
 by_cases k4 : e.Kind = 4
 ·rw [if_pos k4] at h2; simp only [Bool.and_eq_true, decide_eq_true_eq] at h2; exact nil _ h2.2
 rw [if_neg k4] at h2
 by_cases k5 : e.Kind = 5
 ·rw [if_pos k5] at h2
  simp only [Bool.and_eq_true, Bool.or_eq_true, decide_eq_true_eq] at h2
  rcases h2.2 with q | q
  ·exact nil _ q
  ·simp only [bU_, Bool.and_eq_true, decide_eq_true_eq] at q; omega
 rw [if_neg k5] at h2
 by_cases k6 : e.Kind = 6
 ·rw [if_pos k6] at h2
  simp only [Bool.and_eq_true, Bool.or_eq_true, decide_eq_true_eq] at h2
  rcases h2 with q | q
  ·exact got _ q.2
  ·exact nil _ q.2
 rw [if_neg k6] at h2
 by_cases k2 : e.Kind = 2
 ·rw [if_pos k2] at h2; simp only [Bool.and_eq_true, Bool.not_eq_true'] at h2; exact lng _ h2.2
 rw [if_neg k2] at h2
 simp only [Bool.and_eq_true, decide_eq_true_eq] at h2
 exact nil _ h2.2
theorem p2_ (x : ae_) (cs : List aF_) : aJ_ (bi_ x cs).1 = true := by
 unfold bi_
 split
 ·rename_i h
  split
  ·exact rM_ cs h
  ·exact e6_
 ·exact e6_
theorem u5_ (x : ae_) (t : at_) : aJ_ (f5_ x t).1 = true := by
 unfold f5_
 split
 ·exact p2_ _ _
 ·exact e6_
theorem pA_ {e : ab_} (h : bm_ e = true) : ab_.sz e ≤ 408 := by
 have h1 := nj_ h
 have h2 := rk_ h
 show e.Name.size + aq_ ByteArray.size e.Subs + e.Value.size ≤ 408
 omega
theorem ik_ : at_.sz bJ_ ≤ 1048576 := by simp [at_.sz, bJ_, aq_, b9_]
theorem jh_ {t : at_} (h : cB_ t = true) : eY_ t.Events = true := by
 simp only [cB_, Bool.and_eq_true] at h
 first | exact h.1.2 | exact h.2.1 | exact h.1.1.2 | exact h.2 | (simp_all; done)
theorem v1_ (x : ae_) (t : at_) (e : ab_) : at_.sz (bd_ x t e).1 ≤ 1048576 := by
 unfold bd_
 split
 ·rename_i h
  simp only [Bool.and_eq_true] at h
  split
  ·exact ik_
  split
  ·exact ik_
  split
  ·split
   ·have h1 := (le_ (jh_ h.1.2))
    have h2 := pU_ ab_.sz 408 (t.Events ++ [e]) fun y hy => by
     rcases mem_append.1 hy with q | q
     ·exact pA_ (h1.2 y q)
     ·obtain rfl := mem_singleton.1 q; exact pA_ h.2
    show aq_ ab_.sz (t.Events ++ [e]) ≤ 1048576
    simp only [aq_, la_, lc_, ln_] at h2 ⊢
    omega
   ·exact ik_
  ·exact ik_
 ·exact ik_
abbrev h0_ (p : at_ × Int) : AV := .tup [.agg (at_.cells p.1), .val (.int .i64 p.2)]
def tA_ (a : AV) : Prop := ∃ d r s, s.cell = true ∧ ∃ c, a = .tup [.agg [.val (.int .i64 d), .val (.int .i64 r), s], .val (.int .i64 c)]
section
variable {lo hi : Nat} {H : List Row} {s : AV} {es : List ab_}
theorem m5_ (hF : aB_ lo hi H s (.list 0 5 (es.map ab_.cells))) (h : lo ≤ hi) (d r c : Int) : aB_ lo hi H (.tup [.agg [.val (.int .i64 d), .val (.int .i64 r), s], .val (.int .i64 c)]) (h0_ (⟨d, r, es⟩, c)) :=
 aB_.tup (am_.cons (aB_.agg (am_.val _ (am_.val _ (am_.cons hF (am_.nil _ _ _) ⟨h, Nat.le_refl _⟩)))) (am_.val _ (am_.nil _ _ _)) ⟨h, Nat.le_refl _⟩)
theorem dX_ (h : lo ≤ hi) (c : Int) : aB_ lo hi H (.tup [.agg [.val (.int .i64 0), .val (.int .i64 0), .val (.slice none 0 0)], .val (.int .i64 c)]) (h0_ (bJ_, c)) := m5_ (es := []) (aB_.mknil _ _ _ _) h 0 0 c
end
def c12 : LC :=
 .q [.o [.bx 3 41 0, .bx 4 36 1, .bx 5 44 2, .s 6 (.alloc 36 (.agg #[.int .i64 0, .int .i64 0, .slice none 0 0])), .ki 7 0], .block 0 (.q [.o [.ld 12 1 3, .c1 13 43 12, .nt 14 13, .m 15 14, .gl 16 15 false 3 4, .gc 17 15
 false 44 16, .gu 18 15 false 17, .pt 19 15 18, .m 20 19, .gl 21 20 false 5 5, .gc 22 20 false 45 21, .gu 23 20 false 22, .pt 24 20 23, .m 11 24], .k 11 (.q [.o [.s 25 (.build (.agg #[.int .i64 0, .int .i64 0, .slice none
 0 0]) [(0, 1), (1, 1), (2, 1)] []), .st 3 6 25, .ki 7 1], .ret]) (.q [.o [.fa 27 0 4, .ln 28 27, .bk 29 .eql false 28 0, .m 26 29], .k 26 (.q [.o [.s 30 (.build (.agg #[.int .i64 0, .int .i64 0, .slice none 0 0]) [(0,
 1), (1, 1), (2, 1)] []), .st 3 6 30, .ki 7 17], .ret]) (.q [.o [.fa 32 2 4, .ln 33 32, .ll 34 33, .bk 35 .eql false 34 60, .m 31 35], .k 31 (.q [.o [.s 36 (.build (.agg #[.int .i64 0, .int .i64 0, .slice none 0 0]) [(0,
 1), (1, 1), (2, 1)] []), .st 3 6 36, .ki 7 4], .ret]) .skip])])]), .o [.ld 38 1 3, .ld 39 3 4, .c2 40 46 38 39, .m 37 40, .ex 41 37 0, .ex 42 37 1, .s 8 (.alloc 41 (.agg #[.slice none 0 0])), .st 1 8 41, .m 9 42], .q [.o
 [.m 43 9, .bk 44 .eql false 43 0], .k 44 (.o [.ld 45 5 5, .c2 46 47 8 45, .m 9 46]) .skip], .q [.o [.m 47 9, .bk 48 .neq false 47 0], .k 48 (.q [.o [.s 49 (.build (.agg #[.int .i64 0, .int .i64 0, .slice none 0 0]) [(0,
 1), (1, 1), (2, 1)] []), .m 50 9, .st 3 6 49, .m 7 50], .ret]) .skip], .o [.ld 51 3 4, .c1 52 48 51, .s 10 (.alloc 36 (.agg #[.int .i64 0, .int .i64 0, .slice none 0 0])), .st 3 10 52], .gops [.fa 53 2 10, .ln 54 53, .ld
 55 5 5] [(.c1 56 49 55, [.fa 53 2 10, .ln 54 53]), (.s 57 (.buildSlice 44 5 (.agg #[.int .i64 0, .string ⟨#[]⟩, .slice none 0 0, .string ⟨#[]⟩, .int .i64 0]) 1 [(0, .tmp 56)]), [.fa 53 2 10, .ln 54 53]), (.ap 58 44 5 72
 54 57, []), (.fa 59 2 10, []), (.st 1 59 58, [])], .o [.ld 60 3 10, .st 3 6 60, .ki 7 0], .ret]
def B3_ : LF := ⟨3, 61, c12, [.cell 6 (some 3), .tmp 7]⟩
theorem DV_ : au_ Tryz.prog Tryz.f12 B3_ := ah_
theorem eQ_ (x : ae_) (t : at_) (e : ab_) (hx : ae_.sz x ≤ 1048576) (ht : at_.sz t ≤ 1048576) (he : ab_.sz e ≤ 1048576) : aK_ Tryz.prog 12 [.agg (ae_.cells x), .agg (at_.cells t), .agg (ab_.cells e)] (h0_ (bd_ x t e)) tA_ := by
 refine bN_ mixed Tryz.func12 DV_ rfl (fun h0 => ?_)
 have htr : ∀ H, aa_ Tryz.prog 43 [.agg [.list 0 3 (x.Nodes.map ac_.cells)]] H (.val (.bool (aJ_ x))) := fun H => fz_ x hx H
 have hto : ∀ H, aa_ Tryz.prog 44 [.agg [.val (.int .i64 t.Depth), .val (.int .i64 t.Restarts), .list 0 5 (t.Events.map ab_.cells)]] H (.val (.bool (cB_ t))) := fun H => iK_ t ht H
 have hno : ∀ H, aa_ Tryz.prog 45 [.agg [.val (.int .i64 e.Kind), .val (.string e.Name), .list 0 1 (e.Subs.map aj_), .val (.string e.Value), .val (.int .i64 e.N)]] H (.val (.bool (bm_ e))) := fun H => gy_ e he H
 have hvw : fp_ Tryz.prog 46 [.agg [.list 0 3 (x.Nodes.map ac_.cells)], .agg [.val (.int .i64 t.Depth), .val (.int .i64 t.Restarts), .list 0 5 (t.Events.map ab_.cells)]] (cN_ (f5_ x t)) kY_ := mB_ x t hx ht
 have hcp : aK_ Tryz.prog 49 [.agg [.val (.int .i64 e.Kind), .val (.string e.Name), .list 0 1 (e.Subs.map aj_), .val (.string e.Value), .val (.int .i64 e.N)]] (.agg (ab_.cells e)) (fun a => ∃ l, a = .agg [.val (.int .i64 e.Kind), .val (.string e.Name), .own l e.Subs.length, .val (.string e.Value), .val (.int .i64 e.N)]) := eM_ e he
 simp (disch := (first | omega | (simp only [ls_, la_, lc_, ln_]; first | done | omega))) only [aH_, go_sem, Nat.reduceEqDiff, Nat.reduceAdd, ↓reduceIte, B3_, c12, ae_.cells, at_.cells, ab_.cells]
 refine aa_.call (htr _) ?_
 by_cases q1 : aJ_ x = true
 case neg =>
  have q1' : aJ_ x = false := by simpa using q1
  have hR : bd_ x t e = (bJ_, 1) := by simp [bd_, q1']
  simp (disch := (first | omega | (simp only [ls_, la_, lc_, ln_]; first | done | omega))) only [di_, go_sem, Nat.reduceEqDiff, Nat.reduceAdd, ↓reduceIte, q1', bp_, Option.map_some, aT_]
  rw [hR]
  exact ⟨⟨by first | exact az_.app _ _ | exact (az_.app _ _).set (by omega), dX_ (by simp) _⟩, _, _, _, rfl, _, rfl⟩
 simp (disch := (first | omega | (simp only [ls_, la_, lc_, ln_]; first | done | omega))) only [bK_, go_sem, Nat.reduceEqDiff, Nat.reduceAdd, ↓reduceIte, q1]
 refine aa_.call (hto _) ?_
 by_cases q2 : cB_ t = true
 case neg =>
  have q2' : cB_ t = false := by simpa using q2
  have hR : bd_ x t e = (bJ_, 1) := by simp [bd_, q2']
  simp (disch := (first | omega | (simp only [ls_, la_, lc_, ln_]; first | done | omega))) only [di_, go_sem, Nat.reduceEqDiff, Nat.reduceAdd, ↓reduceIte, q2', bp_, Option.map_some, aT_]
  rw [hR]
  exact ⟨⟨by first | exact az_.app _ _ | exact (az_.app _ _).set (by omega), dX_ (by simp) _⟩, _, _, _, rfl, _, rfl⟩
 simp (disch := (first | omega | (simp only [ls_, la_, lc_, ln_]; first | done | omega))) only [fj_, go_sem, Nat.reduceEqDiff, Nat.reduceAdd, ↓reduceIte, q2]
 refine aa_.call (hno _) ?_
 by_cases q3 : bm_ e = true
 case neg =>
  have q3' : bm_ e = false := by simpa using q3
  have hR : bd_ x t e = (bJ_, 1) := by simp [bd_, q3']
  simp (disch := (first | omega | (simp only [ls_, la_, lc_, ln_]; first | done | omega))) only [di_, go_sem, Nat.reduceEqDiff, Nat.reduceAdd, ↓reduceIte, q3', bp_, Option.map_some, aT_]
  rw [hR]
  exact ⟨⟨by first | exact az_.app _ _ | exact (az_.app _ _).set (by omega), dX_ (by simp) _⟩, _, _, _, rfl, _, rfl⟩
 by_cases q4 : t.Depth = 0
 ·have q4' : (t.Depth = 0) = True := eq_true q4
  have hR : bd_ x t e = (bJ_, 17) := by simp [bd_, q1, q2, q3, q4]
  simp (disch := (first | omega | (simp only [ls_, la_, lc_, ln_]; first | done | omega))) only [bK_, di_, go_sem, Nat.reduceEqDiff, Nat.reduceAdd, ↓reduceIte, q3, q4', bp_, Option.map_some, aT_]
  rw [hR]
  exact ⟨⟨by first | exact az_.app _ _ | exact (az_.app _ _).set (by omega), dX_ (by simp) _⟩, _, _, _, rfl, _, rfl⟩
 have q4' : (t.Depth = 0) = False := eq_false q4
 have hle := (le_ (jh_ q2)).1
 by_cases q5 : t.Events.length = 60
 ·have q5' : ((t.Events.length : Int) = 60) = True := eq_true (by omega)
  have hR : bd_ x t e = (bJ_, 4) := by simp [bd_, q1, q2, q3, q4, q5]
  simp (disch := (first | omega | (simp only [ls_, la_, lc_, ln_]; first | done | omega))) only [bK_, di_, go_sem, Nat.reduceEqDiff, Nat.reduceAdd, ↓reduceIte, q3, q4', q5', bp_, Option.map_some, aT_]
  rw [hR]
  exact ⟨⟨by first | exact az_.app _ _ | exact (az_.app _ _).set (by omega), dX_ (by simp) _⟩, _, _, _, rfl, _, rfl⟩
 have q5' : ((t.Events.length : Int) = 60) = False := eq_false (by omega)
 have hV : f5_ x t = bi_ x (a8_ t.Events) := by simp [f5_, q1, q2]
 have hyk : aJ_ (bi_ x (a8_ t.Events)).1 = true := by
  rw [← hV]; exact u5_ x t
 rw [hV] at hvw
 simp (disch := (first | omega | (simp only [ls_, la_, lc_, ln_]; first | done | omega))) only [aH_, bK_, go_sem, Nat.reduceEqDiff, Nat.reduceAdd, ↓reduceIte, q3, q4', q5']
 refine hvw _ _ (fun av H1 m1 F1 q6 => ?_)
 obtain ⟨b, cb, v, rfl, hN⟩ := q6
 obtain ⟨G, hv⟩ := F1.two
 simp only [AV.val.injEq, Value.int.injEq, true_and] at hv
 subst hv
 have cb' := cb
 simp only [AV.cell, Value.oneCell'] at cb'
 have l1 := m1.len
 simp only [la_, lc_, ln_] at l1
 have m0 : az_ h0 H1 := (az_.app h0 _).trans m1
 have p1 := m1.at (i := h0.length + 1) (by rw [bR_]; rfl)
 have p2 := m1.at (i := h0.length + 2) (by rw [bR_]; rfl)
 have p3 := m1.at (i := h0.length + 3) (by rw [bR_]; rfl)
 by_cases hc : (bi_ x (a8_ t.Events)).2 = 0
 case neg =>
  have hc' : ((bi_ x (a8_ t.Events)).2 = 0) = False := eq_false hc
  have hR : bd_ x t e = (bJ_, (bi_ x (a8_ t.Events)).2) := by simp [bd_, q1, q2, q3, q4, q5, hc]
  simp (disch := (first | omega | (simp only [ls_, la_, lc_, ln_]; first | done | omega))) only [aD_, ax_, aH_, go_sem, Nat.reduceEqDiff, Nat.reduceAdd, ↓reduceIte, p3, cb', hc', bp_, Option.map_some, aT_]
  rw [hR]
  exact ⟨⟨by first | exact (m0.add _).set (by omega) | exact ((m0.add _).set (by omega)).set (by omega), dX_ (by simp; omega) _⟩, _, _, _, rfl, _, rfl⟩
 have hc' : ((bi_ x (a8_ t.Events)).2 = 0) = True := eq_true hc
 simp (disch := (first | omega | (simp only [ls_, la_, lc_, ln_]; first | done | omega))) only [ax_, aH_, go_sem, Nat.reduceEqDiff, Nat.reduceAdd, ↓reduceIte, p2, cb', hc]
 have B : c9_ H1.length (h0.length + 4) (H1 ++ [⟨41, 1, [[b]]⟩]) (bi_ x (a8_ t.Events)).1 := by
  obtain ⟨z, fs, z1, z2, z3⟩ := G.tree.unagg.head
  exact c9_.ofN (hi := H1.length) (aH_ rfl) (by omega) (Nat.le_refl _) ((G.tree.keep fun y _ q => ax_ q).widen (by simp) (Nat.le_refl _)) (iZ_ z1 (fun y hy => ax_ (z3 y hy).2) (hN hc))
 refine kt_ B e hyk q3 he (fun H2 k1 k2 k3 => ?_)
 simp only [la_, lc_, ln_] at k1
 have r1 := (k2 (h0.length + 1) (by omega)).trans ((ax_ (by omega)).trans p1)
 have r2 := (k2 (h0.length + 2) (by omega)).trans ((ax_ (by omega)).trans p2)
 have r3 := (k2 (h0.length + 3) (by omega)).trans ((ax_ (by omega)).trans p3)
 have mm : az_ h0 H2 := ⟨by omega, fun z q => by
  rw [k2 z (by omega)]; exact (ax_ (by omega)).trans (m0.kept z q)⟩
 by_cases hd : (cJ_ (bi_ x (a8_ t.Events)).1 e).2 = 0
 case neg =>
  have hd' : ((cJ_ (bi_ x (a8_ t.Events)).1 e).2 = 0) = False := eq_false hd
  have hR : bd_ x t e = (bJ_, (cJ_ (bi_ x (a8_ t.Events)).1 e).2) := by simp [bd_, q1, q2, q3, q4, q5, hc, hd]
  simp (disch := (first | omega | (simp only [ls_, la_, lc_, ln_]; first | done | omega))) only [aD_, go_sem, Nat.reduceEqDiff, Nat.reduceAdd, ↓reduceIte, r3, hd', bp_, Option.map_some, aT_]
  rw [hR]
  exact ⟨⟨by first | exact mm.set (by omega) | exact (mm.set (by omega)).set (by omega), dX_ (by simp; omega) _⟩, _, _, _, rfl, _, rfl⟩
 have hd' : ((cJ_ (bi_ x (a8_ t.Events)).1 e).2 = 0) = True := eq_true hd
 have hR : bd_ x t e = (⟨t.Depth, t.Restarts, t.Events ++ [e]⟩, 0) := by simp [bd_, q1, q2, q3, q4, q5, hc, hd]
 rw [hR]
 simp (disch := (first | omega | (simp only [ls_, la_, lc_, ln_]; first | done | omega))) only [go_sem, Nat.reduceEqDiff, Nat.reduceAdd, ↓reduceIte, r1, hd]
 refine lh_ t ht (fun l H3 done m3 hl3 G3 hd3 => ?_)
 have l3 := m3.len
 have g3 := G3.lt
 have gr := G3.row
 have s2 := m3.at r2
 have s3 := m3.at r3
 have m3' : az_ h0 H3 := mm.trans m3
 simp (disch := (first | omega | (simp only [ls_, la_, lc_, ln_]; first | done | omega))) only [ax_, aH_, go_sem, Nat.reduceEqDiff, Nat.reduceAdd, ↓reduceIte, s2]
 refine be_ hcp (fun av H4 m4 F4 q7 => ?_)
 obtain ⟨l4, rfl⟩ := q7
 have y4 := m4.len
 simp only [la_, lc_, ln_] at y4
 have u0 : H4[H3.length]? = some ⟨36, 3, [[.val (.int .i64 t.Depth), .val (.int .i64 t.Restarts), .own l t.Events.length]]⟩ := m4.at (by first | exact aH_ rfl | exact aD_ (by simp))
 have keep : ∀ z, z < H3.length → H4[z]? = H3[z]? := fun z q => by
  rw [m4.kept z (by simp; omega)]; (repeat (first | rw [al_ (by omega)] | rw [ax_ (by first | omega | (simp only [ls_, la_, lc_, ln_]; omega))]))
 have u3 := (keep _ (by omega)).trans s3
 have ul := (keep _ (by omega)).trans gr
 simp (disch := (first | omega | (simp only [ls_, la_, lc_, ln_]; first | done | omega))) only [al_, aD_, ax_, aH_, go_sem, Nat.reduceEqDiff, Nat.reduceAdd, Nat.reduceLeDiff, ↓reduceIte, u0, u3, ul, hd3, Option.map_some, aT_]
 repeat (refine And.intro (by first | omega | (exact strs_cellv _) | assumption | (simp; done)) ?_)
 have GG := G3.step (H1 := H4.set H3.length ⟨36, 3, [[.val (.int .i64 t.Depth), .val (.int .i64 t.Restarts), .own l (t.Events.length + 1)]]⟩) (H2 := (((H4 ++ ([⟨44, 5, [[.val (.int .i64 e.Kind), .val (.string e.Name), .own l4 e.Subs.length, .val (.string e.Value), .val (.int .i64 e.N)]]⟩] : List Row)).set l ⟨44, 5, done ++ [[AV.val (.int .i64 e.Kind), AV.val (.string e.Name), AV.own l4 e.Subs.length, AV.val (.string e.Value), AV.val (.int .i64 e.N)]]⟩).set H3.length ⟨36, 3, [[.val (.int .i64 t.Depth), .val (.int .i64 t.Restarts), .own l (t.Events.length + 1)]]⟩).set (h0.length + 3) ⟨36, 3, [[.val (.int .i64 t.Depth), .val (.int .i64 t.Restarts), .own l (t.Events.length + 1)]]⟩) (rs := ab_.cells e)
  ((F4.tree.unagg.keep fun z q1 q2 => al_ (by simp at q1; omega)).widen (by simp) (by simp)) (by simp; omega) (fun z q1 q2 => by rw [al_ (by omega)]; exact keep z q2) (by simp) (fun z q1 q2 => by
   simp only [ls_] at q2
   rw [al_ (by omega)]
   by_cases hz : z = H3.length
   ·subst hz
    rw [aD_ (by simp; omega), aD_ (by omega)]
   ·rw [al_ (by omega), al_ (by omega), al_ (by omega), ax_ (by omega)]) (by
   rw [al_ (by omega), al_ (by omega)]; exact aD_ (by simp; omega))
 have hM : az_ h0 H4 := (m3'.add _).trans m4
 refine ⟨⟨((((hM.add _).set (by omega)).set (by omega)).set (by omega)), m5_ ?_ (by simp; omega) _ _ _⟩, _, _, _, rfl, _, rfl⟩
 rw [map_append]
 exact (GG.done (n := t.Events.length + 1) (by simp [hd3])).widen (by omega) (Nat.le_refl _)
def c8 : LC :=
 .q [.o [.bx 3 41 0, .bx 4 36 1, .bx 5 44 2, .s 6 (.alloc 36 (.agg #[.int .i64 0, .int .i64 0, .slice none 0 0])), .ki 7 0], .q [.o [.ld 13 1 3, .c1 14 29 13, .nt 15 14, .m 16 15, .gl 17 16 false 3 4, .gc 18 16 false 30
 17, .gu 19 16 false 18, .pt 20 16 19, .m 21 20, .gl 22 21 false 5 5, .gc 23 21 false 31 22, .gu 24 21 false 23, .pt 25 21 24], .k 25 (.q [.o [.s 26 (.build (.agg #[.int .i64 0, .int .i64 0, .slice none 0 0]) [(0, 1), (1,
 1), (2, 1)] []), .st 3 6 26, .ki 7 1], .ret]) .skip], .q [.o [.fa 27 0 4, .ln 28 27, .bk 29 .eql false 28 0], .k 29 (.q [.o [.s 30 (.build (.agg #[.int .i64 0, .int .i64 0, .slice none 0 0]) [(0, 1), (1, 1), (2, 1)] []),
 .st 3 6 30, .ki 7 17], .ret]) .skip], .q [.o [.fa 31 2 4, .ln 32 31, .ll 33 32, .bk 34 .geq false 33 60], .k 34 (.q [.o [.s 35 (.build (.agg #[.int .i64 0, .int .i64 0, .slice none 0 0]) [(0, 1), (1, 1), (2, 1)] []), .st
 3 6 35, .ki 7 4], .ret]) .skip], .o [.ld 37 1 3, .fa 38 2 4, .ln 39 38, .c2 40 32 37 39, .m 36 40, .ex 41 36 0, .ex 42 36 1, .s 8 (.alloc 41 (.agg #[.slice none 0 0])), .st 1 8 41, .m 9 42], .q [.o [.m 43 9, .bk 44 .neq
 false 43 0], .k 44 (.q [.o [.s 45 (.build (.agg #[.int .i64 0, .int .i64 0, .slice none 0 0]) [(0, 1), (1, 1), (2, 1)] []), .m 46 9, .st 3 6 45, .m 7 46], .ret]) .skip], .q [.dops [.ld 47 5 5, .c1 48 33 47, .m 49 48, .gl
 50 49 true 1 8, .gl 51 49 true 5 5, .g 52 49 true (.call 35 [.tmp 50, .tmp 51]), .gl 53 49 true 5 5, .g 54 49 true (.call 34 [.tmp 52, .tmp 53]), .gu 55 49 true 54, .pf 56 49 55], .k 56 (.q [.o [.s 57 (.build (.agg
 #[.int .i64 0, .int .i64 0, .slice none 0 0]) [(0, 1), (1, 1), (2, 1)] []), .st 3 6 57, .ki 7 5], .ret]) .skip], .q [.o [.ld 58 5 5, .c1 59 36 58], .k 59 (.q [.o [.ld 61 1 8, .ld 62 5 5, .c2 63 37 61 62, .m 60 63, .ex 64
 60 0, .ex 65 60 1, .s 10 (.alloc 41 (.agg #[.slice none 0 0])), .st 1 10 64, .m 11 65], .o [.m 66 11, .bk 67 .neq false 66 0], .k 67 (.q [.o [.s 68 (.build (.agg #[.int .i64 0, .int .i64 0, .slice none 0 0]) [(0, 1), (1,
 1), (2, 1)] []), .m 69 11, .st 3 6 68, .m 7 69], .ret]) .skip]) .skip], .gops [.fa 70 0 4, .ln 71 70, .fa 72 1 4, .ln 73 72, .fa 74 2 4, .ln 75 74] [(.c1 76 38 75, [.fa 70 0 4, .ln 71 70, .fa 72 1 4, .ln 73 72]), (.s 77
 (.build (.agg #[.int .i64 0, .int .i64 0, .slice none 0 0]) [(0, 1), (1, 1), (2, 1)] [(0, .tmp 71), (1, .tmp 73), (2, .tmp 76)]), []), (.s 12 (.alloc 36 (.agg #[.int .i64 0, .int .i64 0, .slice none 0 0])), [.fa 70 0 4,
 .ln 71 70, .fa 72 1 4, .ln 73 72, .fa 74 2 4, .ln 75 74]), (.st 3 12 77, [])], .gops [.fa 78 2 12, .ln 79 78, .ld 80 5 5] [(.c1 81 39 80, [.fa 78 2 12, .ln 79 78]), (.s 82 (.buildSlice 44 5 (.agg #[.int .i64 0, .string
 ⟨#[]⟩, .slice none 0 0, .string ⟨#[]⟩, .int .i64 0]) 1 [(0, .tmp 81)]), [.fa 78 2 12, .ln 79 78]), (.ap 83 44 5 72 79 82, []), (.fa 84 2 12, []), (.st 1 84 83, [])], .o [.ld 85 3 12, .st 3 6 85, .ki 7 0], .ret]
def lf8 : LF := ⟨3, 86, c8, [.cell 6 (some 3), .tmp 7]⟩
theorem D6_ : au_ Tryz.prog Tryz.f8 lf8 := rJ_
theorem jC_ (x : ae_) (t : at_) (e : ab_) (hx : ae_.sz x ≤ 1048576) (ht : at_.sz t ≤ 1048576) (he : ab_.sz e ≤ 1048576) : aK_ Tryz.prog 8 [.agg (ae_.cells x), .agg (at_.cells t), .agg (ab_.cells e)] (h0_ (bd_ x t e)) tA_ := by
 refine bN_ mixed Tryz.func8 D6_ rfl (fun h0 => ?_)
 have htr : ∀ H, aa_ Tryz.prog 29 [.agg [.list 0 3 (x.Nodes.map ac_.cells)]] H (.val (.bool (aJ_ x))) := fun H => cA_ x hx H
 have hto : ∀ H, aa_ Tryz.prog 30 [.agg [.val (.int .i64 t.Depth), .val (.int .i64 t.Restarts), .list 0 5 (t.Events.map ab_.cells)]] H (.val (.bool (cB_ t))) := fun H => m0_ t ht H
 have hno : ∀ H, aa_ Tryz.prog 31 [.agg [.val (.int .i64 e.Kind), .val (.string e.Name), .list 0 1 (e.Subs.map aj_), .val (.string e.Value), .val (.int .i64 e.N)]] H (.val (.bool (bm_ e))) := fun H => eA_ e he H
 have hrd : ∀ H, aa_ Tryz.prog 33 [.agg [.val (.int .i64 e.Kind), .val (.string e.Name), .list 0 1 (e.Subs.map aj_), .val (.string e.Value), .val (.int .i64 e.N)]] H (.val (.bool (bP_ e))) := fun H => iB_ e H
 have htu : ∀ H, aa_ Tryz.prog 36 [.agg [.val (.int .i64 e.Kind), .val (.string e.Name), .list 0 1 (e.Subs.map aj_), .val (.string e.Value), .val (.int .i64 e.N)]] H (.val (.bool (bI_ e))) := fun H => gM_ e H
 have hvw : aK_ Tryz.prog 32 [.agg [.list 0 3 (x.Nodes.map ac_.cells)], .list 0 5 (t.Events.map ab_.cells)] (cN_ (bi_ x (a8_ t.Events))) fc_ := kV_ x t.Events hx (at_.sz_Events ht)
 have hcp : aK_ Tryz.prog 39 [.agg [.val (.int .i64 e.Kind), .val (.string e.Name), .list 0 1 (e.Subs.map aj_), .val (.string e.Value), .val (.int .i64 e.N)]] (.agg (ab_.cells e)) (fun a => ∃ l, a = .agg [.val (.int .i64 e.Kind), .val (.string e.Name), .own l e.Subs.length, .val (.string e.Value), .val (.int .i64 e.N)]) := fK_ e he
 simp (disch := (first | omega | (simp only [ls_, la_, lc_, ln_]; first | done | omega))) only [aH_, go_sem, Nat.reduceEqDiff, Nat.reduceAdd, ↓reduceIte, lf8, c8, ae_.cells, at_.cells, ab_.cells]
 refine aa_.call (htr _) ?_
 by_cases q1 : aJ_ x = true
 case neg =>
  have q1' : aJ_ x = false := by simpa using q1
  have hR : bd_ x t e = (bJ_, 1) := by simp [bd_, q1']
  simp (disch := (first | omega | (simp only [ls_, la_, lc_, ln_]; first | done | omega))) only [di_, go_sem, Nat.reduceEqDiff, Nat.reduceAdd, ↓reduceIte, q1', bp_, Option.map_some, aT_]
  rw [hR]
  exact ⟨⟨by first | exact az_.app _ _ | exact (az_.app _ _).set (by omega), dX_ (by simp) _⟩, _, _, _, rfl, _, rfl⟩
 simp (disch := (first | omega | (simp only [ls_, la_, lc_, ln_]; first | done | omega))) only [bK_, go_sem, Nat.reduceEqDiff, Nat.reduceAdd, ↓reduceIte, q1]
 refine aa_.call (hto _) ?_
 by_cases q2 : cB_ t = true
 case neg =>
  have q2' : cB_ t = false := by simpa using q2
  have hR : bd_ x t e = (bJ_, 1) := by simp [bd_, q2']
  simp (disch := (first | omega | (simp only [ls_, la_, lc_, ln_]; first | done | omega))) only [di_, go_sem, Nat.reduceEqDiff, Nat.reduceAdd, ↓reduceIte, q2', bp_, Option.map_some, aT_]
  rw [hR]
  exact ⟨⟨by first | exact az_.app _ _ | exact (az_.app _ _).set (by omega), dX_ (by simp) _⟩, _, _, _, rfl, _, rfl⟩
 simp (disch := (first | omega | (simp only [ls_, la_, lc_, ln_]; first | done | omega))) only [fj_, go_sem, Nat.reduceEqDiff, Nat.reduceAdd, ↓reduceIte, q2]
 refine aa_.call (hno _) ?_
 by_cases q3 : bm_ e = true
 case neg =>
  have q3' : bm_ e = false := by simpa using q3
  have hR : bd_ x t e = (bJ_, 1) := by simp [bd_, q3']
  simp (disch := (first | omega | (simp only [ls_, la_, lc_, ln_]; first | done | omega))) only [di_, go_sem, Nat.reduceEqDiff, Nat.reduceAdd, ↓reduceIte, q3', bp_, Option.map_some, aT_]
  rw [hR]
  exact ⟨⟨by first | exact az_.app _ _ | exact (az_.app _ _).set (by omega), dX_ (by simp) _⟩, _, _, _, rfl, _, rfl⟩
 by_cases q4 : t.Depth = 0
 ·have q4' : (t.Depth = 0) = True := eq_true q4
  have hR : bd_ x t e = (bJ_, 17) := by simp [bd_, q1, q2, q3, q4]
  simp (disch := (first | omega | (simp only [ls_, la_, lc_, ln_]; first | done | omega))) only [bK_, di_, go_sem, Nat.reduceEqDiff, Nat.reduceAdd, ↓reduceIte, q3, q4', bp_, Option.map_some, aT_]
  rw [hR]
  exact ⟨⟨by first | exact az_.app _ _ | exact (az_.app _ _).set (by omega), dX_ (by simp) _⟩, _, _, _, rfl, _, rfl⟩
 have q4' : (t.Depth = 0) = False := eq_false q4
 have hle := (le_ (jh_ q2)).1
 by_cases q5 : t.Events.length = 60
 ·have q5' : ((60 : Int) ≤ (t.Events.length : Int)) = True := eq_true (by omega)
  have hR : bd_ x t e = (bJ_, 4) := by simp [bd_, q1, q2, q3, q4, q5]
  simp (disch := (first | omega | (simp only [ls_, la_, lc_, ln_]; first | done | omega))) only [bK_, di_, go_sem, Nat.reduceEqDiff, Nat.reduceAdd, ↓reduceIte, q3, q4', q5', bp_, Option.map_some, aT_]
  rw [hR]
  exact ⟨⟨by first | exact az_.app _ _ | exact (az_.app _ _).set (by omega), dX_ (by simp) _⟩, _, _, _, rfl, _, rfl⟩
 have q5' : ((60 : Int) ≤ (t.Events.length : Int)) = False := eq_false (by omega)
 have hyk : aJ_ (bi_ x (a8_ t.Events)).1 = true := p2_ _ _
 simp (disch := (first | omega | (simp only [ls_, la_, lc_, ln_]; first | done | omega))) only [aH_, bK_, go_sem, Nat.reduceEqDiff, ↓reduceIte, q3, q4', q5']
 refine be_ hvw (fun av H1 m1 F1 q6 => ?_)
 obtain ⟨b, cb, v, rfl⟩ := q6
 obtain ⟨G, hv⟩ := F1.two
 simp only [AV.val.injEq, Value.int.injEq, true_and] at hv
 subst hv
 have cb' := cb
 simp only [AV.cell, Value.oneCell'] at cb'
 have l1 := m1.len
 simp only [la_, lc_, ln_] at l1
 have m0 : az_ h0 H1 := (az_.app h0 _).trans m1
 have p1 := m1.at (i := h0.length + 1) (by rw [bR_]; rfl)
 have p2 := m1.at (i := h0.length + 2) (by rw [bR_]; rfl)
 have p3 := m1.at (i := h0.length + 3) (by rw [bR_]; rfl)
 by_cases hc : (bi_ x (a8_ t.Events)).2 = 0
 case neg =>
  have hc' : ((bi_ x (a8_ t.Events)).2 = 0) = False := eq_false hc
  have hR : bd_ x t e = (bJ_, (bi_ x (a8_ t.Events)).2) := by simp [bd_, q1, q2, q3, q4, q5, hc]
  simp (disch := (first | omega | (simp only [ls_, la_, lc_, ln_]; first | done | omega))) only [aD_, ax_, aH_, go_sem, Nat.reduceEqDiff, Nat.reduceAdd, ↓reduceIte, p3, cb', hc', bp_, Option.map_some, aT_]
  rw [hR]
  exact ⟨⟨by first | exact (m0.add _).set (by omega) | exact ((m0.add _).set (by omega)).set (by omega), dX_ (by simp; omega) _⟩, _, _, _, rfl, _, rfl⟩
 have hc' : ((bi_ x (a8_ t.Events)).2 = 0) = True := eq_true hc
 simp (disch := (first | omega | (simp only [ls_, la_, lc_, ln_]; first | done | omega))) only [ax_, aH_, go_sem, Nat.reduceEqDiff, Nat.reduceAdd, ↓reduceIte, p2, cb', hc]
 have mB : az_ h0 (H1 ++ [⟨41, 1, [[b]]⟩]) := m0.add _
 have x1 := (az_.row H1 ⟨41, 1, [[b]]⟩).at p1
 have x2 := (az_.row H1 ⟨41, 1, [[b]]⟩).at p2
 have x3 := (az_.row H1 ⟨41, 1, [[b]]⟩).at p3
 have x0 := g0_ H1 ⟨41, 1, [[b]]⟩
 have hA : cj_ (H1 ++ [⟨41, 1, [[b]]⟩]) (.agg [b]) (.agg (ae_.cells (bi_ x (a8_ t.Events)).1)) := (G.tree.keep fun z _ q => ax_ q).arg.any
 have lB : (H1 ++ [(⟨41, 1, [[b]]⟩ : Row)]).length = H1.length + 1 := by simp
 generalize H1 ++ [(⟨41, 1, [[b]]⟩ : Row)] = HB at mB x1 x2 x3 x0 hA lB ⊢
 refine aa_.q (hrd _) ?_
 cases hr : bP_ e
 case true =>
  have hnt := tQ_ hr
  have hAp : cJ_ (bi_ x (a8_ t.Events)).1 e = if bO_ (bx_ (bi_ x (a8_ t.Events)).1 e) e = true then ((bi_ x (a8_ t.Events)).1, 0) else (⟨[]⟩, 5) := by rw [cJ_, if_neg (by rw [hnt]; simp)]
  have hag : aK_ Tryz.prog 35 [.agg (ae_.cells (bi_ x (a8_ t.Events)).1), .agg [.val (.int .i64 e.Kind), .val (.string e.Name), .list 0 1 (e.Subs.map aj_), .val (.string e.Value), .val (.int .i64 e.N)]] (.agg (ab_.cells (bx_ (bi_ x (a8_ t.Events)).1 e))) (g5_ e) := kr_ _ e (du_ hyk) he hyk q3 hr
  have hse : ∀ X, aa_ Tryz.prog 34 [.agg (ab_.cells (bx_ (bi_ x (a8_ t.Events)).1 e)), .agg [.val (.int .i64 e.Kind), .val (.string e.Name), .list 0 1 (e.Subs.map aj_), .val (.string e.Value), .val (.int .i64 e.N)]] X (.val (.bool (bO_ (bx_ (bi_ x (a8_ t.Events)).1 e) e))) := fun X => j8_ _ e (lT_ hyk q3 he) X
  simp (disch := (first | omega | (simp only [ls_, la_, lc_, ln_]; first | done | omega))) only [go_sem, Nat.reduceEqDiff, Nat.reduceAdd, ↓reduceIte, x0, x2]
  refine aa_.q (hag.pureAny (aZ_.cons hA (aZ_.cons (cj_.same rfl) aZ_.nil))) ?_
  try simp (disch := (first | omega | (simp only [ls_, la_, lc_, ln_]; first | done | omega))) only [al_, aD_, ax_, aH_, bK_, fj_, di_, ls_, go_sem, Nat.reduceEqDiff, Nat.reduceAdd, Nat.reduceLeDiff, reduceCtorEq, Int.reduceLT, Int.reduceLE, Int.reduceNeg, Int.reduceSub, Int.reduceAdd, Int.reduceToNat, ↓reduceIte, x0, x1, x2, x3, cb']
  refine aa_.q (hse _) ?_
  cases hq : bO_ (bx_ (bi_ x (a8_ t.Events)).1 e) e
  ·rw [hq] at hAp
   have hR : bd_ x t e = (bJ_, 5) := by simp [bd_, q1, q2, q3, q4, q5, hc, hAp]
   simp (disch := (first | omega | (simp only [ls_, la_, lc_, ln_]; first | done | omega))) only [aD_, go_sem, Nat.reduceEqDiff, Nat.reduceAdd, ↓reduceIte, x3, bp_, Option.map_some, aT_]
   rw [hR]
   exact ⟨⟨by first | exact mB.set (by omega) | exact (mB.set (by omega)).set (by omega), dX_ (by simp; omega) _⟩, _, _, _, rfl, _, rfl⟩
  ·rw [hq] at hAp
   have hR : bd_ x t e = (⟨t.Depth, t.Restarts, t.Events ++ [e]⟩, 0) := by simp [bd_, q1, q2, q3, q4, q5, hc, hAp]
   rw [hR]
   simp (disch := (first | omega | (simp only [ls_, la_, lc_, ln_]; first | done | omega))) only [go_sem, Nat.reduceEqDiff, Nat.reduceAdd, ↓reduceIte, x2]
   refine aa_.call (htu _) ?_
   simp (disch := (first | omega | (simp only [ls_, la_, lc_, ln_]; first | done | omega))) only [go_sem, Nat.reduceEqDiff, ↓reduceIte, hnt, x1]
   refine hk_ t.Events (at_.sz_Events ht) (fun l H3 done m3 hl3 G3 hd3 => ?_)
   have l3 := m3.len
   try simp only [la_, lc_, ln_] at l3 hl3
   have g3 := G3.lt
   have gr := G3.row
   have s1 := m3.at x1
   have s2 := m3.at x2
   have s3 := m3.at x3
   have m3' : az_ h0 H3 := mB.trans m3
   simp (disch := (first | omega | (simp only [ls_, la_, lc_, ln_]; first | done | omega))) only [ax_, aH_, go_sem, Nat.reduceEqDiff, Nat.reduceAdd, Nat.reduceLeDiff, ↓reduceIte, s1, s2, bp_, Option.map_some]
   refine be_ hcp (fun av H4 m4 F4 q7 => ?_)
   obtain ⟨l4, rfl⟩ := q7
   have y4 := m4.len
   simp only [la_, lc_, ln_] at y4
   have u0 : H4[H3.length]? = some ⟨36, 3, [[.val (.int .i64 t.Depth), .val (.int .i64 t.Restarts), .own l t.Events.length]]⟩ := m4.at (by first | exact aH_ rfl | exact aD_ (by simp))
   have keep : ∀ z, z < H3.length → H4[z]? = H3[z]? := fun z q => by
    rw [m4.kept z (by simp; omega)]; (repeat (first | rw [al_ (by omega)] | rw [ax_ (by first | omega | (simp only [ls_, la_, lc_, ln_]; omega))]))
   have u3 := (keep _ (by omega)).trans s3
   have ul := (keep _ (by omega)).trans gr
   simp (disch := (first | omega | (simp only [ls_, la_, lc_, ln_]; first | done | omega))) only [al_, aD_, ax_, aH_, go_sem, Nat.reduceEqDiff, Nat.reduceAdd, Nat.reduceLeDiff, ↓reduceIte, u0, u3, ul, hd3, Option.map_some, aT_]
   repeat (refine And.intro (by first | omega | (exact strs_cellv _) | assumption | (simp; done)) ?_)
   have GG := G3.step (H1 := H4.set H3.length ⟨36, 3, [[.val (.int .i64 t.Depth), .val (.int .i64 t.Restarts), .own l (t.Events.length + 1)]]⟩) (H2 := (((H4 ++ ([⟨44, 5, [[.val (.int .i64 e.Kind), .val (.string e.Name), .own l4 e.Subs.length, .val (.string e.Value), .val (.int .i64 e.N)]]⟩] : List Row)).set l ⟨44, 5, done ++ [[AV.val (.int .i64 e.Kind), AV.val (.string e.Name), AV.own l4 e.Subs.length, AV.val (.string e.Value), AV.val (.int .i64 e.N)]]⟩).set H3.length ⟨36, 3, [[.val (.int .i64 t.Depth), .val (.int .i64 t.Restarts), .own l (t.Events.length + 1)]]⟩).set (h0.length + 3) ⟨36, 3, [[.val (.int .i64 t.Depth), .val (.int .i64 t.Restarts), .own l (t.Events.length + 1)]]⟩) (rs := ab_.cells e)
    ((F4.tree.unagg.keep fun z q1 q2 => al_ (by simp at q1; omega)).widen (by simp) (by simp)) (by simp; omega) (fun z q1 q2 => by rw [al_ (by omega)]; exact keep z q2) (by simp) (fun z q1 q2 => by
     simp only [ls_] at q2
     rw [al_ (by omega)]
     by_cases hz : z = H3.length
     ·subst hz
      rw [aD_ (by simp; omega), aD_ (by omega)]
     ·rw [al_ (by omega), al_ (by omega), al_ (by omega), ax_ (by omega)]) (by
     rw [al_ (by omega), al_ (by omega)]; exact aD_ (by simp; omega))
   have hM : az_ h0 H4 := (m3'.add _).trans m4
   refine ⟨⟨((((hM.add _).set (by omega)).set (by omega)).set (by omega)), m5_ ?_ (by simp; omega) _ _ _⟩, _, _, _, rfl, _, rfl⟩
   rw [map_append]
   exact (GG.done (n := t.Events.length + 1) (by simp [hd3])).widen (by omega) (Nat.le_refl _)
 case false =>
  have hnt := vK_ q3 hr
  have hAp : cJ_ (bi_ x (a8_ t.Events)).1 e = bz_ (bi_ x (a8_ t.Events)).1 (c3_ e) := by rw [cJ_, if_pos hnt]
  have htn : aK_ Tryz.prog 37 [.agg (ae_.cells (bi_ x (a8_ t.Events)).1), .agg [.val (.int .i64 e.Kind), .val (.string e.Name), .list 0 1 (e.Subs.map aj_), .val (.string e.Value), .val (.int .i64 e.N)]] (cN_ (cJ_ (bi_ x (a8_ t.Events)).1 e)) fc_ := by
   rw [hAp]; exact kL_ _ e hyk q3 hnt he
  simp (disch := (first | omega | (simp only [ls_, la_, lc_, ln_]; first | done | omega))) only [go_sem, Nat.reduceEqDiff, Nat.reduceAdd, ↓reduceIte, x2]
  refine aa_.call (htu _) ?_
  simp (disch := (first | omega | (simp only [ls_, la_, lc_, ln_]; first | done | omega))) only [go_sem, Nat.reduceEqDiff, Nat.reduceAdd, ↓reduceIte, hnt, x0, x2]
  refine eF_ htn (aZ_.cons hA (aZ_.cons (cj_.same rfl) aZ_.nil)) (fun av H2 m2 F2 q8 => ?_)
  obtain ⟨b2, cb2, v2, rfl⟩ := q8
  obtain ⟨G2, hv2⟩ := F2.two
  simp only [AV.val.injEq, Value.int.injEq, true_and] at hv2
  subst hv2
  have l2 := m2.len
  have cb2' := cb2
  simp only [AV.cell, Value.oneCell'] at cb2'
  have x1 := m2.at x1
  have x2 := m2.at x2
  have x3 := m2.at x3
  have mB := mB.trans m2
  by_cases hd : (cJ_ (bi_ x (a8_ t.Events)).1 e).2 = 0
  case neg =>
   have hd' : ((cJ_ (bi_ x (a8_ t.Events)).1 e).2 = 0) = False := eq_false hd
   have hR : bd_ x t e = (bJ_, (cJ_ (bi_ x (a8_ t.Events)).1 e).2) := by simp [bd_, q1, q2, q3, q4, q5, hc, hd]
   simp (disch := (first | omega | (simp only [ls_, la_, lc_, ln_]; first | done | omega))) only [aD_, ax_, aH_, go_sem, Nat.reduceEqDiff, Nat.reduceAdd, ↓reduceIte, x3, cb2', hd', bp_, Option.map_some, aT_]
   rw [hR]
   exact ⟨⟨by first | exact (mB.add _).set (by omega) | exact ((mB.add _).set (by omega)).set (by omega), dX_ (by simp; omega) _⟩, _, _, _, rfl, _, rfl⟩
  have hR : bd_ x t e = (⟨t.Depth, t.Restarts, t.Events ++ [e]⟩, 0) := by simp [bd_, q1, q2, q3, q4, q5, hc, hd]
  rw [hR]
  have w1 := x1
  have w2 := x2
  have w3 := x3
  have x1 := (az_.row H2 ⟨41, 1, [[b2]]⟩).at x1
  have x2 := (az_.row H2 ⟨41, 1, [[b2]]⟩).at x2
  have x3 := (az_.row H2 ⟨41, 1, [[b2]]⟩).at x3
  simp (disch := (first | omega | (simp only [ls_, la_, lc_, ln_]; first | done | omega))) only [ax_, aH_, go_sem, Nat.reduceEqDiff, ↓reduceIte, w1, cb2', hd]
  refine hk_ t.Events (at_.sz_Events ht) (fun l H3 done m3 hl3 G3 hd3 => ?_)
  have l3 := m3.len
  try simp only [la_, lc_, ln_] at l3 hl3
  have g3 := G3.lt
  have gr := G3.row
  have s1 := m3.at x1
  have s2 := m3.at x2
  have s3 := m3.at x3
  have m3' : az_ h0 H3 := (mB.add _).trans m3
  simp (disch := (first | omega | (simp only [ls_, la_, lc_, ln_]; first | done | omega))) only [ax_, aH_, go_sem, Nat.reduceEqDiff, Nat.reduceAdd, Nat.reduceLeDiff, ↓reduceIte, s1, s2, bp_, Option.map_some]
  refine be_ hcp (fun av H4 m4 F4 q7 => ?_)
  obtain ⟨l4, rfl⟩ := q7
  have y4 := m4.len
  simp only [la_, lc_, ln_] at y4
  have u0 : H4[H3.length]? = some ⟨36, 3, [[.val (.int .i64 t.Depth), .val (.int .i64 t.Restarts), .own l t.Events.length]]⟩ := m4.at (by first | exact aH_ rfl | exact aD_ (by simp))
  have keep : ∀ z, z < H3.length → H4[z]? = H3[z]? := fun z q => by
   rw [m4.kept z (by simp; omega)]; (repeat (first | rw [al_ (by omega)] | rw [ax_ (by first | omega | (simp only [ls_, la_, lc_, ln_]; omega))]))
  have u3 := (keep _ (by omega)).trans s3
  have ul := (keep _ (by omega)).trans gr
  simp (disch := (first | omega | (simp only [ls_, la_, lc_, ln_]; first | done | omega))) only [al_, aD_, ax_, aH_, go_sem, Nat.reduceEqDiff, Nat.reduceAdd, Nat.reduceLeDiff, ↓reduceIte, u0, u3, ul, hd3, Option.map_some, aT_]
  repeat (refine And.intro (by first | omega | (exact strs_cellv _) | assumption | (simp; done)) ?_)
  have GG := G3.step (H1 := H4.set H3.length ⟨36, 3, [[.val (.int .i64 t.Depth), .val (.int .i64 t.Restarts), .own l (t.Events.length + 1)]]⟩) (H2 := (((H4 ++ ([⟨44, 5, [[.val (.int .i64 e.Kind), .val (.string e.Name), .own l4 e.Subs.length, .val (.string e.Value), .val (.int .i64 e.N)]]⟩] : List Row)).set l ⟨44, 5, done ++ [[AV.val (.int .i64 e.Kind), AV.val (.string e.Name), AV.own l4 e.Subs.length, AV.val (.string e.Value), AV.val (.int .i64 e.N)]]⟩).set H3.length ⟨36, 3, [[.val (.int .i64 t.Depth), .val (.int .i64 t.Restarts), .own l (t.Events.length + 1)]]⟩).set (h0.length + 3) ⟨36, 3, [[.val (.int .i64 t.Depth), .val (.int .i64 t.Restarts), .own l (t.Events.length + 1)]]⟩) (rs := ab_.cells e)
   ((F4.tree.unagg.keep fun z q1 q2 => al_ (by simp at q1; omega)).widen (by simp) (by simp)) (by simp; omega) (fun z q1 q2 => by rw [al_ (by omega)]; exact keep z q2) (by simp) (fun z q1 q2 => by
    simp only [ls_] at q2
    rw [al_ (by omega)]
    by_cases hz : z = H3.length
    ·subst hz
     rw [aD_ (by simp; omega), aD_ (by omega)]
    ·rw [al_ (by omega), al_ (by omega), al_ (by omega), ax_ (by omega)]) (by
    rw [al_ (by omega), al_ (by omega)]; exact aD_ (by simp; omega))
  have hM : az_ h0 H4 := (m3'.add _).trans m4
  refine ⟨⟨((((hM.add _).set (by omega)).set (by omega)).set (by omega)), m5_ ?_ (by simp; omega) _ _ _⟩, _, _, _, rfl, _, rfl⟩
  rw [map_append]
  exact (GG.done (n := t.Events.length + 1) (by simp [hd3])).widen (by omega) (Nat.le_refl _)
theorem hH_ (x : ae_) (t : at_) (e : ab_) (hx : ae_.sz x ≤ 1048576) (ht : at_.sz t ≤ 1048576) (he : ab_.sz e ≤ 1048576) (h : List Row) : aa_ Tryz.prog 8 [.agg (ae_.cells x), .agg (at_.cells t), .agg (ab_.cells e)] h (h0_ (bd_ x t e)) := (jC_ x t e hx ht he).pure rfl h
end Go.Proofs.YtfkddbkjmkceaaaGreatDoor
