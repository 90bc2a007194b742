/-
 Contracts of functions. Conditions: as each theorem says.
-/
import Derived.Test.YtodgohgdnmifaaaGreatDoorFnMN
namespace Go.Proofs.YtodgohgdnmifaaaGreatDoor
open Tryz (prog)
open Nat (reduceEqDiff reduceLeDiff)
open List
open Go.AW
set_option linter.unusedVariables false
set_option linter.unusedSimpArgs false
set_option maxRecDepth 4000
theorem iT_ {α : Type} (cells : α → List AV) (dec : List AV → α) (hdec : ∀ g, dec (cells g) = g) (q : α → Bool) : ∀ (l : List Tr) (hs : List α), l.map Tr.d = hs.map cells → (l.filter (fun t => q (dec t.d))).map Tr.d = (hs.filter q).map cells
 | [], hs, h => by
  cases hs with
  | nil => rfl
  | cons g hs => simp at h
 | t :: l, hs, h => by
  cases hs with
  | nil => simp at h
  | cons g hs =>
   simp only [map_cons, List.cons.injEq] at h
   have ih := iT_ cells dec hdec q l hs h.2
   have e : dec t.d = g := by rw [h.1, hdec]
   simp only [filter_cons, e]
   split
   ·simp only [map_cons, h.1, ih]
   ·exact ih
def v2_ : LC :=
 .q [.o [.bx 2 74 0, .f 3], .o [.fa 4 0 2, .ln 5 4, .ln 6 1, .bb 7 .eql false 5 6, .m 3 7], .ret]
def tH_ : LF := ⟨2, 8, v2_, [.tmp 3]⟩
theorem vT_ : ay_ prog Tryz.f106 tH_ := ak_
def wJ_ : LC :=
 .q [.o [.bx 2 64 0, .f 3], .o [.fa 4 0 2, .ln 5 4, .ln 6 1, .bb 7 .eql false 5 6, .m 3 7], .ret]
def t4_ : LF := ⟨2, 8, wJ_, [.tmp 3]⟩
theorem vb_ : ay_ prog Tryz.f108 t4_ := ak_
theorem hn_ {H : List Row} {M : Nat} {E : Tag} (g : ab_) (j : Int) {c4 : AV} (hc : c4.cell = true) (hM : H[M]? = some ⟨E, 1, [[.val (.int .i64 j)]]⟩) :
 eU_ prog 106 [.agg [.val (.int .i64 g.Job), .val (.int .i64 g.Count), .val (.string g.Name), c4], .ptr M 1 0 0] H (.val (.bool (decide (g.Job = j)))) := by
 intro K hk
 refine aO_ mixed Tryz.func106 vT_ (be_ rfl ?_)
 have l1 := (List.getElem?_eq_some_iff.1 hM).1
 have hc' := hc
 simp only [AV.cell, Value.oneCell'] at hc'
 simp (disch := (first | omega | (simp only [ls_, la_, lc_, ln_]; first | done | omega))) only [ai_, aC_, go_sem, reduceEqDiff, Nat.reduceAdd, ↓reduceIte, tH_, v2_, hM, hc']
 exact hk _ (aJ_.app _ _)
theorem ho_ {H : List Row} {M : Nat} {E : Tag} (g : ad_) (j : Int) {c4 : AV} (hc : c4.cell = true) (hM : H[M]? = some ⟨E, 1, [[.val (.int .i64 j)]]⟩) :
 eU_ prog 108 [.agg [.val (.int .i64 g.Job), .val (.int .i64 g.Until), .val (.string g.Name), c4], .ptr M 1 0 0] H (.val (.bool (decide (g.Job = j)))) := by
 intro K hk
 refine aO_ mixed Tryz.func108 vb_ (be_ rfl ?_)
 have l1 := (List.getElem?_eq_some_iff.1 hM).1
 have hc' := hc
 simp only [AV.cell, Value.oneCell'] at hc'
 simp (disch := (first | omega | (simp only [ls_, la_, lc_, ln_]; first | done | omega))) only [ai_, aC_, go_sem, reduceEqDiff, Nat.reduceAdd, ↓reduceIte, t4_, wJ_, hM, hc']
 exact hk _ (aJ_.app _ _)
def fx_ (x : ac_) (j : Int) : ac_ := ⟨x.Held.filter fun g => !decide (g.Job = j), x.Asks.filter fun g => !decide (g.Job = j)⟩
theorem bS_.filter {x : ac_} (h : bS_ x) (p : ab_ → Bool) (q : ad_ → Bool) : bS_ ⟨x.Held.filter p, x.Asks.filter q⟩ :=
 ⟨h.sorted.sublist filter_sublist, fun a ha => h.held a (mem_filter.1 ha).1, Nat.le_trans filter_sublist.length_le h.len, fun a ha => h.asks a (mem_filter.1 ha).1, Nat.le_trans filter_sublist.length_le h.alen⟩
theorem uo_ {lo : Nat} {H : List Row} {L : Nat} {x : ac_} {a b : AV} {lh mh : Nat} {th : List Tr} {la ma : Nat} {ta : List Tr} (B : KB lo H L x a b lh mh th la ma ta) {H2 : List Row} {m2 : Nat} {ts2 : List Tr} {ks : List ad_} (g1 : H.length ≤ H2.length) (g2 : ∀ z, z < H.length → z ≠ la → H2[z]? = H[z]?) (g3 : a7_ lo H2 64 4 la m2 ts2) (g5 : ∀ z, z ∈ aE_ la ts2 → z ∈ aE_ la ta) (g6 : (ts2.take m2).map Tr.d = ks.map ad_.cells) :
 let H3 := H2.set L ⟨.ty 32, 2, [[a, .sub la ts2.length 0 m2]]⟩
 KX lo H3 L ⟨x.Held, ks⟩ (aE_ lh th ++ aE_ la ts2) ∧ Fr H H3 L (aE_ lh th ++ aE_ la ta) (aE_ lh th ++ aE_ la ts2) := by
 intro H3
 have hLlt := (List.getElem?_eq_some_iff.1 B.box).1
 have hLF : L ∉ aE_ la ts2 := fun z => B.out2 (g5 L z)
 have k3 : ∀ z, z ≠ L → H3[z]? = H2[z]? := fun z hz => ae_ (Ne.symm hz)
 have l3 : H3.length = H2.length := by simp [H3]
 refine ⟨⟨a, .sub la ts2.length 0 m2, lh, mh, th, la, m2, ts2, ⟨az_ (by omega), ?_, B.out1, hLF, B.lt⟩, rfl⟩, ⟨by omega, fun z q1 q2 q3 => ?_, fun z hz => .inl ?_⟩⟩
 ·refine B.kl.setAsks (.inl rfl) (g3.keep (fun z hz => k3 z fun e => hLF (by rw [← e]; exact hz)) (by omega)) g6 (fun z hz => .inl (g5 z hz)) (fun z hz => ?_) (by omega)
  rw [k3 z (fun e => B.out1 (by rw [← e]; exact hz)), g2 z (B.kl.held.lows z hz).2 (fun e => B.kl.apart z hz (by rw [e]; exact mem_cons_self))]
 ·rw [k3 z q2, g2 z q1 (fun e => q3 (by rw [e]; exact mem_append_right _ mem_cons_self))]
 ·exact (mem_append.1 hz).elim (fun w => mem_append_left _ w) fun w => mem_append_right _ (g5 z w)
theorem u3_ {lo : Nat} {H : List Row} {L : Nat} {x : ac_} {a b : AV} {lh mh : Nat} {th : List Tr} {la ma : Nat} {ta : List Tr} (B : KB lo H L x a b lh mh th la ma ta) {H2 : List Row} {m2 : Nat} {ts2 : List Tr} {hs : List ab_} (g1 : H.length ≤ H2.length) (g2 : ∀ z, z < H.length → z ≠ lh → H2[z]? = H[z]?) (g3 : a7_ lo H2 74 4 lh m2 ts2) (g5 : ∀ z, z ∈ aE_ lh ts2 → z ∈ aE_ lh th) (g6 : (ts2.take m2).map Tr.d = hs.map ab_.cells) :
 let H3 := H2.set L ⟨.ty 32, 2, [[.sub lh ts2.length 0 m2, b]]⟩
 KB lo H3 L ⟨hs, x.Asks⟩ (.sub lh ts2.length 0 m2) b lh m2 ts2 la ma ta ∧ Fr H H3 L (aE_ lh th ++ aE_ la ta) (aE_ lh ts2 ++ aE_ la ta) := by
 intro H3
 have hLlt := (List.getElem?_eq_some_iff.1 B.box).1
 have hLF : L ∉ aE_ lh ts2 := fun z => B.out1 (g5 L z)
 have k3 : ∀ z, z ≠ L → H3[z]? = H2[z]? := fun z hz => ae_ (Ne.symm hz)
 have l3 : H3.length = H2.length := by simp [H3]
 refine ⟨⟨az_ (by omega), ?_, hLF, B.out2, B.lt⟩, ⟨by omega, fun z q1 q2 q3 => ?_, fun z hz => .inl ?_⟩⟩
 ·refine B.kl.setHeld (.inl rfl) (g3.keep (fun z hz => k3 z fun e => hLF (by rw [← e]; exact hz)) (by omega)) g6 (fun z hz => .inl (g5 z hz)) (fun z hz => ?_) (by omega)
  rw [k3 z (fun e => B.out2 (by rw [← e]; exact hz)), g2 z (B.kl.asks.lows z hz).2 (fun e => B.kl.apart lh mem_cons_self (by rw [← e]; exact hz))]
 ·rw [k3 z q2, g2 z q1 (fun e => q3 (by rw [e]; exact mem_append_left _ mem_cons_self))]
 ·exact (mem_append.1 hz).elim (fun w => mem_append_left _ (g5 z w)) fun w => mem_append_right _ w
def c65 : LC :=
 .q [.o [.bx 3 2 1], .o [.m 4 0, .m 5 0, .nc 6 5, .fa 7 0 6, .ln 8 7, .s 9 (.mkFunc 106 [] [.tmp 3]), .c2 10 105 8 9, .nc 11 4, .fa 12 0 11, .st 1 12 10], .o [.m 13 0, .m 14 0, .nc 15 14, .fa 16 1 15, .ln 17 16, .s 18
 (.mkFunc 108 [] [.tmp 3]), .c2 19 107 17 18, .nc 20 13, .fa 21 1 20, .st 1 21 19]]
def wZ_ : LF := ⟨2, 22, c65, []⟩
theorem yg_ : ay_ prog Tryz.f65 wZ_ := ak_
theorem hX_ {lo : Nat} {H : List Row} {L : Nat} {x : ac_} {F : List Nat} (k : KX lo H L x F) (hl : bS_ x) (j : Int) {K : AV → List Row → Prop}
 (hk : ∀ H' F', Fr H H' L F F' → KX lo H' L (fx_ x j) F' → K (.tup []) H') : callSem prog 65 [.ptr L 1 0 0, .val (.int .i64 j)] H K := by
 refine aO_ mixed Tryz.func65 yg_ (be_ rfl ?_)
 have k1 := k.more (aJ_.app H [⟨2, 1, [[.val (.int .i64 j)]]⟩])
 have fr0 := Fr.more (aJ_.app H [⟨2, 1, [[.val (.int .i64 j)]]⟩]) L F
 have hko := k.out
 obtain ⟨a, b, lh, mh, th, la, ma, ta, B, hF⟩ := k1
 have box := B.box
 have hlen := hl.len
 have hal := hl.alen
 have hmh := B.kl.mh_eq
 have hma := B.kl.ma_eq
 have hLl : L ≠ lh := fun e => B.out1 (by rw [e]; exact mem_cons_self)
 have hLa : L ≠ la := fun e => B.out2 (by rw [e]; exact mem_cons_self)
 have n1 : H.length ≠ lh := fun e => by have := hko.2.2.2 lh (by rw [hF]; exact mem_append_left _ mem_cons_self); omega
 have n2 : H.length ≠ la := fun e => by have := hko.2.2.2 la (by rw [hF]; exact mem_append_right _ mem_cons_self); omega
 have boxH : H[L]? = _ := (ai_ hko.2.2.1).symm.trans box
 have hLH := hko.2.2.1
 simp (disch := (first | omega | (simp only [ls_, la_, lc_, ln_]; first | done | omega))) only [ai_, go_sem, reduceEqDiff, reduceCtorEq, ↓reduceIte, wZ_, c65, boxH]
 refine h2_ B.kl.ha ?_
 refine fG_ B.kl.held (fun t => decide ((l9_ t.d).Job = j)) 106 [.ptr H.length 1 0 0] (by omega) (by kernel_rfl) (fun H' q1 q2 t ht => ?_) (fun H2 m2 ts2 g1 g2 g3 g4 g5 g6 => ?_)
 ·obtain ⟨kk, htree⟩ := B.kl.held.tree
  have ht2 := htree t (mem_of_mem_take ht)
  have hd3 : t.d ∈ x.Held.map ab_.cells := by rw [← B.kl.hd]; exact mem_map.2 ⟨t, ht, rfl⟩
  obtain ⟨g, hg, e⟩ := mem_map.1 hd3
  rw [← e] at ht2
  obtain ⟨c4, e4, hc4, ho4⟩ := fj_ ht2
  rw [← e, je_, e4]
  exact hn_ g j hc4 ((q2 _ (by simp) n1).trans (aC_ rfl))
 have hds : (ts2.take m2).map Tr.d = (x.Held.filter fun g => !decide (g.Job = j)).map ab_.cells := by
  rw [g6]; exact iT_ ab_.cells l9_ je_ (fun g => !decide (g.Job = j)) _ _ B.kl.hd
 obtain ⟨B2, f2⟩ := u3_ B g1 g2 g3 g5 hds
 simp only [la_, lc_, ln_] at g1
 have box0 : H2[L]? = _ := (g2 L (by simp; omega) hLl).trans box
 simp (disch := (first | omega | (simp only [ls_, la_, lc_, ln_]; first | done | omega))) only [az_, go_sem, reduceEqDiff, Nat.reduceAdd, reduceLeDiff, reduceCtorEq, ↓reduceIte, box0]
 obtain ⟨H3, hH3⟩ : ∃ H3, H3 = H2.set L ⟨.ty 32, 2, [[.sub lh ts2.length 0 m2, b]]⟩ := ⟨_, rfl⟩
 rw [← hH3] at B2 f2
 rw [← hH3]
 have l3 : H3.length = H2.length := by rw [hH3]; simp
 have box3 := B2.box
 refine h2_ B2.kl.hb ?_
 refine fO_ B2.kl.asks (fun t => decide ((fI_ t.d).Job = j)) 108 [.ptr H.length 1 0 0] (by omega) (by kernel_rfl) (fun H' q1 q2 t ht => ?_) (fun H4 m4 ts4 i1 i2 i3 i4 i5 i6 => ?_)
 ·obtain ⟨kk, htree⟩ := B2.kl.asks.tree
  have ht2 := htree t (mem_of_mem_take ht)
  have hd3 : t.d ∈ x.Asks.map ad_.cells := by rw [← B.kl.ad]; exact mem_map.2 ⟨t, ht, rfl⟩
  obtain ⟨g, hg, e⟩ := mem_map.1 hd3
  rw [← e] at ht2
  obtain ⟨c4, e4, hc4, ho4⟩ := hm_ ht2
  rw [← e, fz_, e4]
  refine ho_ (E := 2) g j hc4 ?_
  rw [q2 _ (by omega) n2, hH3, ae_ (by omega), g2 _ (by simp) n1]; exact aC_ rfl
 have hds4 : (ts4.take m4).map Tr.d = (x.Asks.filter fun g => !decide (g.Job = j)).map ad_.cells := by
  rw [i6]; exact iT_ ad_.cells fI_ fz_ (fun g => !decide (g.Job = j)) _ _ B.kl.ad
 obtain ⟨K4, f4⟩ := uo_ B2 i1 i2 i3 i5 hds4
 have box4 : H4[L]? = _ := (i2 L (by omega) hLa).trans box3
 simp (disch := (first | omega | (simp only [ls_, la_, lc_, ln_]; first | done | omega))) only [go_sem, reduceEqDiff, Nat.reduceAdd, ↓reduceIte, box4]
 refine ⟨[], rfl, hk _ _ ?_ K4⟩
 rw [hF] at fr0 ⊢
 exact fr0.trans (f2.trans f4)
def aF_ (x : ac_) (j : Int) : ac_ × List Int × Int :=
 if (ch_ x && bv_ j 1 4) = true then ((b2_ (fx_ x j)).1, (b2_ (fx_ x j)).2, 0) else (f5_, [], 1)
def c27 : LC :=
 .q [.o [.bx 2 32 0, .s 4 (.alloc 32 z0z), .nl 5, .ki 6 0], .q [.o [.ld 9 2 2, .c1 10 36 9, .nt 11 10, .m 12 11, .gm 13 12 false 1, .gc 14 12 false 37 13, .gu 15 12 false 14, .pt 16 12 15], .k 16 (.q [.o [.s 17 (.build
 z0z [(0, 1), (1, 1)] []), .st 2 4 17, .nl 5, .ki 6 1], .ret]) .skip], .o [.ld 18 2 2, .c1 19 58 18, .m 7 19], .o [.m 20 7, .m 21 1, .c2 22 65 20 21], .o [.m 23 7, .c1 24 60 23, .m 8 24], .o [.m 25 7, .nc 26 25, .ld 27 2
 26, .m 28 8, .st 2 4 27, .m 5 28, .ki 6 0], .ret]
def xf_ : LF := ⟨2, 29, c27, [.cell 4 (some 2), .tmp 5, .tmp 6]⟩
theorem yE_ : ay_ prog Tryz.f27 xf_ := ak_
theorem ec_ (x : ac_) (j : Int) (hx : ac_.sz x ≤ 1048576) : bp_ prog 27 [.agg (ac_.cells x), .val (.int .i64 j)] (ic_ (aF_ x j)) tB_ := by
 refine hA_ mixed Tryz.func27 yE_ rfl (fun h0 => ?_)
 simp (disch := (first | omega | (simp only [ls_, la_, lc_, ln_]; first | done | omega))) only [aC_, go_sem, reduceEqDiff, Nat.reduceAdd, ↓reduceIte, xf_, c27, hc_]
 refine aa_.call (lF_ x hx _) ?_
 cases q : ch_ x
 ·have hR : aF_ x j = (f5_, [], 1) := by rw [aF_, q]; rfl
  rw [hR]
  simp (disch := (first | omega | (simp only [ls_, la_, lc_, ln_]; first | done | omega))) only [bD_, go_sem, reduceEqDiff, Nat.reduceAdd, ↓reduceIte, dg_, Option.map_some, eD_]
  exact ⟨⟨aJ_.app _ _, nf_ (aS_.mknil _ _ _ _) (by simp) _⟩, _, _, _, rfl, rfl, _, rfl⟩
 have hI := bS_.of q
 simp (disch := (first | omega | (simp only [ls_, la_, lc_, ln_]; first | done | omega))) only [go_sem, reduceEqDiff, ↓reduceIte]
 refine aa_.call (cU_ _ _) ?_
 cases qj : bv_ j 1 4
 ·have hR : aF_ x j = (f5_, [], 1) := by rw [aF_, q, qj]; rfl
  rw [hR]
  simp (disch := (first | omega | (simp only [ls_, la_, lc_, ln_]; first | done | omega))) only [bD_, go_sem, reduceEqDiff, Nat.reduceAdd, ↓reduceIte, dg_, Option.map_some, eD_]
  exact ⟨⟨aJ_.app _ _, nf_ (aS_.mknil _ _ _ _) (by simp) _⟩, _, _, _, rfl, rfl, _, rfl⟩
 have hR : aF_ x j = ((b2_ (fx_ x j)).1, (b2_ (fx_ x j)).2, 0) := by rw [aF_, q, qj]; rfl
 rw [hR]
 simp (disch := (first | omega | (simp only [ls_, la_, lc_, ln_]; first | done | omega))) only [aC_, go_sem, reduceEqDiff, Nat.reduceAdd, ↓reduceIte]
 refine jR_ x hx (fun H1 L a b lh mh th la ma ta m1 B => ?_)
 have l1 := m1.len
 simp only [la_, lc_, ln_] at l1
 have B0 := B.lt
 simp only [la_, lc_, ln_] at B0
 have o1 := m1.at (i := h0.length + 1) (bD_ rfl)
 simp (disch := (first | omega | (simp only [ls_, la_, lc_, ln_]; first | done | omega))) only [go_sem, reduceEqDiff, ↓reduceIte]
 refine hX_ ⟨a, b, lh, mh, th, la, ma, ta, B, rfl⟩ hI j (fun H2 F2 f2 K2 => ?_)
 have l2 := f2.len
 have low1 := (show KX (h0.length + 2) H1 L x (aE_ lh th ++ aE_ la ta) from ⟨a, b, lh, mh, th, la, ma, ta, by simpa using B, rfl⟩).out
 simp (disch := (first | omega | (simp only [ls_, la_, lc_, ln_]; first | done | omega))) only [go_sem, reduceEqDiff, ↓reduceIte]
 refine iK_ K2 (hI.filter _ _) (fun H3 F3 J f3 K3 hJ1 hJ2 hJ3 => ?_)
 have l3 := f3.len
 have f4 := f2.trans f3
 have kept : ∀ y, y < h0.length + 2 → H3[y]? = H1[y]? := fun y hy => f4.kept y (by omega) (by omega) fun z => by have := low1.2.2.2 y z; omega
 obtain ⟨a3, b3, lh3, mh3, th3, la3, ma3, ta3, B3, rfl⟩ := K3
 have box3 := B3.box
 have p1 : H3[h0.length + 1]? = _ := (kept _ (by omega)).trans o1
 have ca := B3.kl.ha.cell
 have cb := B3.kl.hb.cell
 have ca' := ca
 have cb' := cb
 simp only [AV.cell, Value.oneCell'] at ca' cb'
 simp (disch := (first | omega | (simp only [ls_, la_, lc_, ln_]; first | done | omega))) only [az_, go_sem, reduceEqDiff, Nat.reduceAdd, ↓reduceIte, p1, box3, ca', cb', eD_]
 have low3 := (show KX (h0 ++ _).length H3 L _ (aE_ lh3 th3 ++ aE_ la3 ta3) from ⟨a3, b3, lh3, mh3, th3, la3, ma3, ta3, B3, rfl⟩).out
 simp only [la_, lc_, ln_] at low3
 have hno : ∀ y ∈ aE_ lh3 th3 ++ aE_ la3 ta3, h0.length + 1 ≠ y := fun y hy => by have := low3.2.2.2 y hy; omega
 refine ⟨⟨⟨by simp; omega, fun y hy => ?_⟩, ?_⟩, a3, b3, _, ca, cb, _, rfl⟩
 ·rw [ae_ (by omega), kept y (by omega), m1.kept y (by simp; omega), ai_ hy]
 ·refine (t3_ (B3.kl.keep (fun y hy => ae_ (hno y (mem_append_left _ hy))) (fun y hy => ae_ (hno y (mem_append_right _ hy))) (by simp)) (J := J) (E := .ty 2) (by rw [ae_ (by omega)]; exact hJ3) hJ2 (by simp; omega) 0).widen (by simp) (Nat.le_refl _)
def KV (lo : Nat) (H : List Row) (x : ac_) (a b : AV) (F : List Nat) : Prop := ∃ lh mh th la ma ta, KL lo H x a b lh mh th la ma ta ∧ F = aE_ lh th ++ aE_ la ta
theorem KV.arg {lo : Nat} {H : List Row} {x : ac_} {a b : AV} {F : List Nat} (k : KV lo H x a b F) : br_ H (.agg [a, b]) (.agg (ac_.cells x)) := by
 obtain ⟨lh, mh, th, la, ma, ta, k, _⟩ := k
 exact k.arg
theorem KV.low {lo : Nat} {H : List Row} {x : ac_} {a b : AV} {F : List Nat} (k : KV lo H x a b F) : ∀ y ∈ F, lo ≤ y ∧ y < H.length := by
 obtain ⟨lh, mh, th, la, ma, ta, k, rfl⟩ := k
 intro y q
 rcases mem_append.1 q with q | q
 ·exact k.held.lows y q
 ·exact k.asks.lows y q
theorem KV.keep {lo : Nat} {H H' : List Row} {x : ac_} {a b : AV} {F : List Nat} (k : KV lo H x a b F) (hk : ∀ y ∈ F, H'[y]? = H[y]?) (hl : H.length ≤ H'.length) : KV lo H' x a b F := by
 obtain ⟨lh, mh, th, la, ma, ta, k, rfl⟩ := k
 exact ⟨lh, mh, th, la, ma, ta, k.keep (fun y q => hk y (mem_append_left _ q)) (fun y q => hk y (mem_append_right _ q)) hl, rfl⟩
theorem KV.more {lo : Nat} {H H' : List Row} {x : ac_} {a b : AV} {F : List Nat} (k : KV lo H x a b F) (m : aJ_ H H') : KV lo H' x a b F := k.keep (fun y hy => m.kept y (k.low y hy).2) m.len
theorem KV.cells {lo : Nat} {H : List Row} {x : ac_} {a b : AV} {F : List Nat} (k : KV lo H x a b F) : a.cell = true ∧ b.cell = true := by
 obtain ⟨lh, mh, th, la, ma, ta, k, rfl⟩ := k
 exact ⟨k.ha.cell, k.hb.cell⟩
def c91 : LC :=
 .q [.o [.bx 4 32 0, .f 8], .o [.ld 10 2 4, .m 11 1, .m 12 2, .m 13 3, .s 14 (.call 54 [.tmp 10, .tmp 11, .tmp 12, .tmp 13]), .m 9 14], .q [.o [.m 15 9, .bk 16 .geq false 15 0], .k 16 (.q [.o [.fa 17 0 4, .ln 18 17, .m 19
 9, .ia 20 4 18 19, .fa 21 1 20, .ln 22 21, .bk 23 .lss false 22 9, .m 8 23], .ret]) .skip], .o [.fa 24 0 4, .ln 25 24, .ll 26 25, .bk 27 .lss false 26 16, .m 8 27], .ret]
def vM_ : LF := ⟨4, 28, c91, [.tmp 8]⟩
theorem xZ_ : ay_ Tryz.prog Tryz.f91 vM_ := ak_
theorem kS_ (x : ac_) (hl : bS_ x) (j : Int) (n : ByteArray) (s : List ByteArray) (h : List Row) : aa_ Tryz.prog 91 [.agg (ac_.cells x), .val (.int .i64 j), .val (.string n), .list 0 1 (s.map au_)] h (.val (.bool (ds_ x.Held j n s))) := by
 refine ao_ mixed Tryz.func91 xZ_ rfl rfl ?_ h
 have hlen := hl.len
 simp (disch := omega) only [vM_, c91, hc_, go_sem, Nat.reduceEqDiff, Nat.reduceAdd, ↓reduceIte]
 refine aa_.call (jc_ x j n s hl.big _) ?_
 rcases hf_ (cs_ j n s) x.Held 0 with ⟨h1, h2⟩ | ⟨i, hi, h1, h2⟩
 ·have h1' : iN_ x j n s = -1 := h1
  have hr : ds_ x.Held j n s = decide (x.Held.length < 16) := by unfold ds_; rw [h2]
  rw [hr]
  simp (disch := omega) only [h1', go_sem, Nat.reduceEqDiff, Int.reduceLE, Int.reduceNeg, ↓reduceIte]
  exact ag_ (by rw [decide_eq_decide]; omega)
 ·have h1' : iN_ x j n s = (i : Int) := by rw [← Nat.zero_add i]; exact h1
  have hneg : (0 ≤ (i : Int)) = True := eq_true (by omega)
  have hr : ds_ x.Held j n s = decide (x.Held[i].Count < 9) := by unfold ds_; rw [h2]
  rw [hr]
  simp (disch := omega) only [h1', hneg, bU_, go_sem, Nat.reduceEqDiff, Nat.reduceAdd, Nat.reduceLeDiff, ↓reduceIte]
  exact ag_ rfl
def c92 : LC :=
 .q [.o [.bx 2 32 0, .s 4 (.alloc 32 z0z)], .o [.s 6 (.buildSlice 64 4 (.agg #[.int .i64 0, .int .i64 0, .string ⟨#[]⟩, .slice none 0 0]) 0 []), .fa 7 1 2, .ln 8 7, .m 9 1, .s 10 (.sliceSl 4 (.tmp 8) none (some (.tmp
 9))), .ap 11 64 4 56 6 10, .m 5 11], .o [.m 12 5, .fa 13 1 2, .ln 14 13, .m 15 1, .bk 16 .add false 15 1, .s 17 (.sliceSl 4 (.tmp 14) (some (.tmp 16)) none), .ap 18 64 4 56 12 17, .fa 19 1 2, .st 1 19 18], .o [.ld 20 2
 2, .st 2 4 20], .ret]
def v3_ : LF := ⟨2, 21, c92, [.cell 4 (some 2)]⟩
theorem yD_ : ay_ Tryz.prog Tryz.f92 v3_ := ak_
theorem ji_ {lo : Nat} {H : List Row} {x : ac_} {a b : AV} {F : List Nat} (k : KV lo H x a b F) (hl : bS_ x) {i : Nat} (hi : i < x.Asks.length) {K : AV → List Row → Prop}
 (hk : ∀ H' l n F', aJ_ H H' → KV lo H' ⟨x.Held, x.Asks.eraseIdx i⟩ a (.own l n) F' → (∀ y ∈ F', y ∈ F ∨ H.length ≤ y) → K (.agg [a, .own l n]) H') : callSem Tryz.prog 92 [.agg [a, b], .val (.int .i64 i)] H K := by
 refine aO_ mixed Tryz.func92 yD_ (be_ rfl ?_)
 obtain ⟨lh, mh, th, la, ma, ta, k, hF⟩ := k
 have hma := k.ma_eq
 have hmt := k.asks.le
 have hal := hl.alen
 have hr := k.asks.row
 have hlat := k.asks.lt
 have ca := k.ha.cell
 have cb := k.hb.cell
 simp only [AV.cell, Value.oneCell'] at ca cb
 have hti : ((i : Int) + 1).toNat = i + 1 := by omega
 have hw : ∀ e ∈ (ta.map Tr.c), e.all AV.cell = true := fun e he => by
  obtain ⟨t, ht, rfl⟩ := mem_map.1 he
  exact (k.asks.wide t ht).2
 have hi1 : i ≤ ma := by omega
 have hi2 : i + 1 ≤ ma := by omega
 have hi3 : i ≤ ta.length := by omega
 have hi4 : i + 1 ≤ ta.length := by omega
 have hlow := (show KV lo H x a b F from ⟨lh, mh, th, la, ma, ta, k, hF⟩).low
 have hem : ta.take i ++ (ta.take ma).drop (i + 1) = (ta.take ma).eraseIdx i := by
  rw [eraseIdx_eq_take_drop_succ, take_take, Nat.min_eq_left (by omega)]
 have hlen : (ta.take i ++ (ta.take ma).drop (i + 1)).length = i + (ma - (i + 1)) := by
  simp only [la_, length_take, length_drop]; omega
 have hdat : (ta.take i ++ (ta.take ma).drop (i + 1)).map Tr.d = (x.Asks.eraseIdx i).map ad_.cells := by rw [hem, jX_, k.ad, ← jX_]
 have hsub : (ta.take i ++ (ta.take ma).drop (i + 1)).Sublist ta := by rw [hem]; exact (eraseIdx_sublist _ _).trans (take_sublist _ _)
 have fin : ∀ (H' : List Row), aJ_ H H' → H'[H.length + 2]? = some ⟨.ty 64, 4, (ta.take i ++ (ta.take ma).drop (i + 1)).map Tr.c⟩ → K (.agg [a, .own (H.length + 2) (i + (ma - (i + 1)))]) H' := fun H' m q => by
  have hl' := (List.getElem?_eq_some_iff.1 q).1
  refine hk H' _ _ (aE_ lh th ++ aE_ (H.length + 2) (ta.take i ++ (ta.take ma).drop (i + 1))) m ⟨lh, mh, th, H.length + 2, (ta.take i ++ (ta.take ma).drop (i + 1)).length, _, ?_, rfl⟩ (fun y hy => ?_)
  ·refine k.setAsks (.inr ⟨by rw [hlen], rfl⟩) (k.asks.renew (new := []) q (Nat.le_refl _) (List.Perm.refl _) hsub (fun t ht => absurd ht not_mem_nil) ⟨0, fun t ht => absurd ht not_mem_nil⟩ nodup_nil (fun y hy => absurd hy not_mem_nil) (fun y hy => m.kept y (k.asks.lows y (mem_cons_of_mem _ hy)).2) (.inr (by omega)) m.len) (by rw [take_length]; exact hdat) (fun y hy => ?_) (fun y hy => m.kept y (k.held.lows y hy).2) m.len
   rcases mem_cons.1 hy with e | e
   ·exact .inr (by omega)
   ·exact .inl (mem_cons_of_mem _ ((eM_ (hsub.map Tr.f)).subset e))
  ·rw [hF]
   rcases mem_append.1 hy with e | e
   ·exact .inl (mem_append_left _ e)
   ·rcases mem_cons.1 e with e | e
    ·exact .inr (by omega)
    ·exact .inl (mem_append_right _ (mem_cons_of_mem _ ((eM_ (hsub.map Tr.f)).subset e)))
 rcases k.hb with rfl | ⟨rfl, e9⟩
 all_goals
  simp (disch := (first | omega | (simp only [ls_, la_, lc_, ln_]; first | done | omega))) only [ai_, aC_, bD_, cN_, go_sem, Nat.reduceEqDiff, Nat.reduceAdd, ↓reduceIte, v3_, c92, hr, hti, hi2, hi3, hi4, ca, aR_, c4_, Nat.zero_add, Nat.sub_zero, length_take, length_drop, length_map, la_, Nat.min_eq_left, nil_append]
  (try rw [← e9])
  refine ⟨by omega, by omega, fun e he => hw e (mem_of_mem_take he), by omega, by omega, fun e he => hw e (mem_of_mem_take (mem_of_mem_drop he)), ?_⟩
  refine fin _ (aJ_.app _ _) ?_
  rw [cN_ rfl]
  simp only [map_append, map_take, map_drop]
theorem u5_ {P : Program} {f : FuncId} {a b : AV} {l m : Nat} {ts : List Tr} {rest : List AV} {h : List Row} {K : AV → List Row → Prop} (ha : Sl a l m ts) (hc : callSem P f (.agg [.sub l ts.length 0 m, b] :: rest) h K) : callSem P f (.agg [a, b] :: rest) h K := by
 rcases ha with rfl | ⟨rfl, rfl⟩
 ·exact hc
 intro S w vals hm hgl hr
 refine hc S w vals hm hgl ?_
 simp only [aj_] at hr ⊢
 obtain ⟨v, r, hv, h1, h2⟩ := hr
 refine ⟨v, r, hv, ?_, h2⟩
 have h3 : ∃ vs, v = .agg vs ∧ aj_ S [.own l ts.length, b] vs.toList := by simpa only [Rep] using h1
 obtain ⟨vs, e, h4⟩ := h3
 have h5 : ∃ v1 r1, vs.toList = v1 :: r1 ∧ Rep S (.own l ts.length) v1 ∧ aj_ S [b] r1 := h4
 obtain ⟨v1, r1, h6, h7, h8⟩ := h5
 have h9 : aj_ S [.sub l ts.length 0 ts.length, b] vs.toList := ⟨v1, r1, h6, h7.own_sub, h8⟩
 show Rep S (.agg [.sub l ts.length 0 ts.length, b]) v
 unfold Rep
 exact ⟨vs, e, h9⟩
theorem rM_ {hs : List ab_} (hp : hs.Pairwise (fun a b => aT_ a b = true)) {j : Int} {n : ByteArray} {s : List ByteArray} (h : bB_ hs j n s = true) : hs.map (cR_ j n s) = hs.modify (bi_ hs j n s) (fX_ 1) := by
 have := lg_ hp j n s
 rw [h, fH_, d4_, if_pos h] at this
 exact this
theorem pd_ {hs : List ab_} {j : Int} {n : ByteArray} {s : List ByteArray} (h : bB_ hs j n s = false) : ∀ g ∈ hs, cR_ j n s g = g := fun g hg => by
 have : cs_ j n s g = false := by
  cases z : cs_ j n s g with
  | false => rfl
  | true => have := any_eq_true.2 ⟨g, hg, z⟩; unfold bB_ at h; rw [h] at this; cases this
 rw [cR_, if_neg (by rw [this]; simp)]
theorem r7_ {lo : Nat} {H : List Row} {x : ac_} {a b : AV} {lh mh : Nat} {th : List Tr} {la ma : Nat} {ta : List Tr} (k : KL lo H x a b lh mh th la ma ta) (hl : bS_ x) (j : Int) (n : ByteArray) (s : List ByteArray) :
 ∃ (thb : List Tr) (Hh : List Row), Hh.length = H.length + 1 ∧ (∀ y, y < H.length → y ≠ lh → Hh[y]? = H[y]?) ∧ a7_ lo Hh 74 4 lh mh thb ∧ aE_ lh thb = aE_ lh th ∧ thb.length = th.length ∧
  ∀ (i : Nat) (hi : i < x.Held.length) (ht : i < th.length) (htb : i < thb.length), thb[i].d = ab_.cells (cR_ j n s x.Held[i]) ∧ ∃ c4 q f, c4.cell = true ∧ Own H q c4 (.list 0 1 (x.Held[i].Subs.map au_)) f ∧ th[i].c = [.val (.int .i64 x.Held[i].Job), .val (.int .i64 x.Held[i].Count), .val (.string x.Held[i].Name), c4] ∧
   thb[i].c = [.val (.int .i64 x.Held[i].Job), .val (.int .i64 (cR_ j n s x.Held[i]).Count), .val (.string x.Held[i].Name), c4] := by
 have elem : ∀ (i : Nat) (hi : i < x.Held.length) (ht : i < th.length), th[i].d = ab_.cells x.Held[i] ∧ ∃ c4 q f, c4.cell = true ∧ Own H q c4 (.list 0 1 (x.Held[i].Subs.map au_)) f ∧ th[i].c = [.val (.int .i64 x.Held[i].Job), .val (.int .i64 x.Held[i].Count), .val (.string x.Held[i].Name), c4] := fun i hi ht => by
  obtain ⟨_, _, hd⟩ := gR_ k hi
  obtain ⟨q, hq⟩ := k.held.tree
  have ho := hq _ (getElem_mem ht)
  rw [hd] at ho
  obtain ⟨c4, e, hcell, ho4⟩ := fj_ ho
  exact ⟨hd, c4, q, _, hcell, ho4, e⟩
 cases hk : bB_ x.Held j n s
 ·refine ⟨th, H ++ [⟨.ty 32, 2, [[a, b]]⟩], by simp, fun y q _ => ai_ q, k.held.more (aJ_.app _ _), rfl, rfl, fun i hi ht _ => ?_⟩
  obtain ⟨h1, c4, q, f, h2, h3, h4⟩ := elem i hi ht
  rw [pd_ hk _ (getElem_mem hi)]
  exact ⟨h1, c4, q, f, h2, h3, h4, h4⟩
 ·obtain ⟨hp, hf⟩ := gZ_ hl.sorted hk
  have low1 : H.length ∉ aE_ lh th := fun z => by have := (k.held.lows _ z).2; omega
  have low2 : H.length ∉ aE_ la ta := fun z => by have := (k.asks.lows _ z).2; omega
  have hlo : lo ≤ H.length := by have := (k.held.lows lh mem_cons_self); omega
  have B : KB lo (H ++ [⟨.ty 32, 2, [[a, b]]⟩]) H.length x a b lh mh th la ma ta := ⟨aC_ rfl, k.more (aJ_.app _ _), low1, low2, hlo⟩
  obtain ⟨hm, htp, _⟩ := gR_ k hp
  obtain ⟨hd0, c0, q0, f0, w1, w2, w3⟩ := elem _ hp htp
  obtain ⟨th', e1, e2, e3, B'⟩ := B.bumped hp htp 1 w3 hd0
  have hll := k.held.lt
  refine ⟨th', _, by simp, fun y q1 q2 => by rw [ae_ (Ne.symm q2), ai_ q1], B'.kl.held, e3, e1, fun i hi ht htb => ?_⟩
  obtain ⟨h1, c4, q, f, h2, h3, h4⟩ := elem i hi ht
  have hbm := rM_ hl.sorted hk
  obtain ⟨_, _, hd'⟩ := gR_ B'.kl (p := i) (by simpa using hi)
  have hg : (x.Held.modify (bi_ x.Held j n s) (fX_ 1))[i]'(by simpa using hi) = cR_ j n s x.Held[i] := by
   have := congrArg (fun z => z[i]?) hbm
   simp only [getElem?_map] at this
   rw [getElem?_eq_getElem hi, getElem?_eq_getElem (by simpa using hi)] at this
   simpa using this.symm
  refine ⟨by rw [hd']; exact congrArg _ hg, c4, q, f, h2, h3, h4, ?_⟩
  have hc : th'[i].c = ((th.map Tr.c).set (bi_ x.Held j n s) [.val (.int .i64 x.Held[bi_ x.Held j n s].Job), .val (.int .i64 (x.Held[bi_ x.Held j n s].Count + 1)), .val (.string x.Held[bi_ x.Held j n s].Name), c0])[i]'(by simpa using ht) := by
   have := congrArg (fun z => z[i]?) e2
   simp only [getElem?_map] at this
   rw [getElem?_eq_getElem htb, getElem?_eq_getElem (by simpa using ht)] at this
   simpa using this
  rw [hc, getElem_set]
  by_cases ei : bi_ x.Held j n s = i
  ·rw [if_pos ei]
   subst ei
   have hkk : cs_ j n s x.Held[bi_ x.Held j n s] = true := (gD_ hl.sorted hk).2
   rw [w3] at h4
   simp only [List.cons.injEq, true_and, and_true] at h4
   subst h4
   rw [cR_, if_pos hkk]; rfl
  ·rw [if_neg ei, getElem_map, h4, cR_, if_neg (fun z => ei (g6_ hl.sorted hi z).symm)]
theorem p5_ (j : Int) (n : ByteArray) (s : List ByteArray) (a : ab_) : aT_ ⟨j, 0, n, s⟩ a = (decide (j < a.Job) || (decide (a.Job = j) && c2_ n.data.toList (bss s) a.Name.data.toList (bss a.Subs))) := by
 have h := gJ_ ⟨j, 0, n, s⟩ a
 rw [Bool.eq_iff_iff, h]
 simp only [Bool.or_eq_true, Bool.and_eq_true, decide_eq_true_eq]
 constructor
 ·rintro (q | ⟨q1, q2⟩)
  ·exact .inl q
  ·exact .inr ⟨q1.symm, q2⟩
 ·rintro (q | ⟨q1, q2⟩)
  ·exact .inl q
  ·exact .inr ⟨q1.symm, q2⟩
theorem qZ_ {x : ac_} (hl : bS_ x) (j : Int) (n : ByteArray) (s : List ByteArray) : (bB_ x.Held j n s = false ∧ iN_ x j n s = -1) ∨ (bB_ x.Held j n s = true ∧ iN_ x j n s = (bi_ x.Held j n s : Int)) := by
 rcases hf_ (cs_ j n s) x.Held 0 with ⟨h1, h2⟩ | ⟨i, hi, h1, h2⟩
 ·refine .inl ⟨?_, h1⟩
  cases q : bB_ x.Held j n s with
  | false => rfl
  | true => obtain ⟨_, hf⟩ := gZ_ hl.sorted q; rw [h2] at hf; cases hf
 ·have hk := find?_some h2
  refine .inr ⟨any_eq_true.2 ⟨_, getElem_mem hi, hk⟩, ?_⟩
  rw [← g6_ hl.sorted hi hk]
  exact h1.trans (by simp)
def c93 : LC :=
 .q [.o [.bx 4 32 0, .s 8 (.alloc 32 z0z)], .o [.s 15 (.buildSlice 74 4 (.agg #[.int .i64 0, .int .i64 0, .string ⟨#[]⟩, .slice none 0 0]) 0 []), .m 9 15], .o [.m 16 1, .m 17 2, .m 18 3, .c1 19 90 18, .s 20 (.build (.agg
 #[.int .i64 0, .int .i64 0, .string ⟨#[]⟩, .slice none 0 0]) [(0, 1), (1, 1), (2, 1), (3, 1)] [(0, .tmp 16), (1, .const (.int .i64 1)), (2, .tmp 17), (3, .tmp 19)]), .s 10 (.alloc 74 (.agg #[.int .i64 0, .int .i64 0,
 .string ⟨#[]⟩, .slice none 0 0])), .st 4 10 20], .o [.ld 21 2 4, .m 22 1, .m 23 2, .m 24 3, .s 25 (.call 54 [.tmp 21, .tmp 22, .tmp 23, .tmp 24]), .m 11 25], .o [.m 26 11, .bk 27 .geq false 26 0, .m 12 27], .q [.o [.ki
 13 0], .block 0 (.loop (.q [.q [.o [.m 28 13, .fa 29 0 4, .ln 30 29, .ll 31 30, .bb 32 .lss false 28 31], .k 32 .skip (.exit 0)], .block 1 (.q [.o [.fa 35 0 4, .ln 36 35, .m 37 13, .ia 38 4 36 37, .ld 39 4 38, .s 14
 (.alloc 74 (.agg #[.int .i64 0, .int .i64 0, .string ⟨#[]⟩, .slice none 0 0])), .st 4 14 39], .q [.o [.m 40 13, .m 41 11, .bb 42 .eql false 40 41], .k 42 (.o [.fa 43 1 14, .ln 44 43, .bk 45 .add false 44 1, .fa 46 1 14,
 .st 1 46 45]) .skip], .q [.o [.m 47 12, .nt 48 47, .m 49 48, .gf 50 49 true 0 14, .gn 51 49 true 50, .gm 52 49 true 1, .g 53 49 true (.bin .gtr false (.tmp 51) (.tmp 52)), .gm 54 49 true 53, .gf 55 54 false 0 14, .gn 56
 54 false 55, .gm 57 54 false 1, .g 58 54 false (.bin .eql false (.tmp 56) (.tmp 57)), .gm 59 54 false 58, .gm 60 59 true 2, .gm 61 59 true 3, .gf 62 59 true 2 14, .gn 63 59 true 62, .gf 64 59 true 3 14, .gn 65 59 true
 64, .g 66 59 true (.call 71 [.tmp 60, .tmp 61, .tmp 63, .tmp 65]), .g 67 54 false (.pick (.tmp 59) (.tmp 66) (.const (.bool false))), .g 68 49 true (.pick (.tmp 54) (.const (.bool true)) (.tmp 67)), .pf 69 49 68], .k 69
 (.q [.o [.m 70 9, .ld 71 4 10, .s 72 (.buildSlice 74 4 (.agg #[.int .i64 0, .int .i64 0, .string ⟨#[]⟩, .slice none 0 0]) 1 [(0, .tmp 71)]), .ap 73 74 4 56 70 72, .m 9 73], .o [.t 12]]) .skip], .o [.m 74 9, .ld 75 4 14,
 .s 76 (.buildSlice 74 4 (.agg #[.int .i64 0, .int .i64 0, .string ⟨#[]⟩, .slice none 0 0]) 1 [(0, .tmp 75)]), .ap 77 74 4 56 74 76, .m 9 77]]), .o [.m 33 13, .bk 34 .add false 33 1, .m 13 34]]))], .q [.o [.m 78 12, .nt
 79 78], .k 79 (.o [.m 80 9, .ld 81 4 10, .s 82 (.buildSlice 74 4 (.agg #[.int .i64 0, .int .i64 0, .string ⟨#[]⟩, .slice none 0 0]) 1 [(0, .tmp 81)]), .ap 83 74 4 56 80 82, .m 9 83]) .skip], .o [.m 84 9, .fa 85 0 4, .st
 1 85 84], .o [.ld 86 2 4, .st 2 8 86], .ret]
def vN_ : LF := ⟨4, 87, c93, [.cell 8 (some 2)]⟩
theorem yf_ : ay_ Tryz.prog Tryz.f93 vN_ := ak_
theorem kA_ {lo : Nat} {H : List Row} {x : ac_} {a b : AV} {F : List Nat} (k : KV lo H x a b F) (hl : bS_ x) (j : Int) {n : ByteArray} {s : List ByteArray} {sa : AV} (ht : cy_ n s = true) (hsa : ∀ H', aJ_ H H' → br_ H' sa (.list 0 1 (s.map au_))) {K : AV → List Row → Prop}
 (hk : ∀ H' a' F', aJ_ H H' → KV lo H' ⟨d4_ x.Held j n s, x.Asks⟩ a' b F' → (∀ y ∈ F', y ∈ F ∨ H.length ≤ y) → K (.agg [a', b]) H') : callSem Tryz.prog 93 [.agg [a, b], .val (.int .i64 j), .val (.string n), sa] H K := by
 obtain ⟨lh, mh, th, la, ma, ta, k0, hF⟩ := k
 refine u5_ k0.ha ?_
 have k : KL lo H x (.sub lh th.length 0 mh) b lh mh th la ma ta := ⟨.inl rfl, k0.hb, k0.held, k0.asks, k0.hd, k0.ad, k0.apart⟩
 clear k0
 refine aO_ mixed Tryz.func93 yf_ (be_ rfl ?_)
 have hmh := k.mh_eq
 have hmt := k.held.le
 have hlen := hl.len
 have hr := k.held.row
 have hlt0 := k.held.lt
 have cb := k.hb.cell
 simp only [AV.cell, Value.oneCell'] at cb
 have hlow := (show KV lo H x _ b F from ⟨lh, mh, th, la, ma, ta, k, hF⟩).low
 obtain ⟨thb, Hh, b1, b2, b3, b4, b5, b6⟩ := r7_ k hl j n s
 have hat : ∀ H', aJ_ H H' → aa_ Tryz.prog 54 [.agg [.sub lh th.length 0 mh, b], .val (.int .i64 j), .val (.string n), sa] H' (.val (.int .i64 (iN_ x j n s))) := fun H' m => aa_.anyR rfl (fun h => jc_ x j n s hl.big h) (aP_.cons (k.more m).arg (aP_.cons (br_.same rfl) (aP_.cons (br_.same rfl) (aP_.cons (hsa H' m) aP_.nil))))
 have hk2 : ∀ (H' : List Row) (em ins : List Tr), aJ_ H H' → H'[H.length + 2]? = some ⟨.ty 74, 4, em.map Tr.c⟩ → em.Perm (ins ++ thb.take mh) → (∀ t ∈ ins, t.c.length = 4 ∧ t.c.all AV.cell = true) → (∃ q, ∀ t ∈ ins, at_ (Own H' q) t.c t.d t.f) → (ins.map Tr.f).flatten.Nodup → (∀ y ∈ (ins.map Tr.f).flatten, H.length + 3 ≤ y ∧ y < H'.length) → em.map Tr.d = (d4_ x.Held j n s).map ab_.cells → K (.agg [.own (H.length + 2) em.length, b]) H' := fun H' em ins m q1 q2 q3 q4 q5 q6 q7 => by
  have hl' := (List.getElem?_eq_some_iff.1 q1).1
  have hsub : ∀ y, y ∈ aE_ (H.length + 2) em → y ∈ aE_ lh th ∨ H.length ≤ y := fun y hy => by
   rcases mem_cons.1 hy with e | e
   ·exact .inr (by omega)
   ·have h1 := ((q2.map Tr.f).flatten).mem_iff.1 e
    rw [map_append, flatten_append] at h1
    rcases mem_append.1 h1 with e2 | e2
    ·exact .inr (by have := q6 y e2; omega)
    ·rw [← b4]
     exact .inl (mem_cons_of_mem _ ((eM_ ((take_sublist _ _).map Tr.f)).subset e2))
  have hflow : ∀ y ∈ aE_ lh thb, y < H.length := fun y hy => by rw [b4] at hy; exact (k.held.lows y hy).2
  refine hk H' _ (aE_ (H.length + 2) em ++ aE_ la ta) m ⟨H.length + 2, em.length, em, la, ma, ta, ?_, rfl⟩ (fun y hy => ?_)
  ·refine k.setHeld (.inr ⟨rfl, rfl⟩) (b3.renew (new := ins) q1 (Nat.le_refl _) q2 (take_sublist _ _) q3 q4 q5 (fun y hy => ?_) (fun y hy => ?_) (.inr (by omega)) (by have := m.len; omega)) (by rw [take_length]; exact q7) (fun y hy => hsub y hy) (fun y hy => m.kept y (k.asks.lows y hy).2) m.len
   ·have h1 := q6 y hy
    exact ⟨fun z => by have := hflow y z; omega, by omega, by have := hlow lh (by rw [hF]; exact mem_append_left _ mem_cons_self); omega, h1.2⟩
   ·have h1 := hflow y (mem_cons_of_mem _ hy)
    have h2 : y ≠ lh := fun e => (nodup_cons.1 b3.one).1 (e ▸ hy)
    rw [m.kept y h1, b2 y h1 h2]
  ·rw [hF]
   rcases mem_append.1 hy with e | e
   ·exact (hsub y e).imp (fun z => mem_append_left _ z) id
   ·exact .inl (mem_append_right _ e)
 simp (disch := (first | omega | (simp only [ls_, la_, lc_, ln_]; first | done | omega))) only [go_sem, reduceEqDiff, Nat.reduceAdd, ↓reduceIte, vN_, c93, cb]
 refine jM_ (ed_ s (cd_ ht).2.2) (aP_.cons (hsa _ (aJ_.app _ _)) aP_.nil) (fun av H1 m1 F1 q1 => ?_)
 obtain ⟨ls, rfl⟩ := q1
 have l1 := m1.len
 simp only [la_, lc_, ln_] at l1
 have p0 := m1.at (i := H.length) (aC_ rfl)
 have p1 := m1.at (i := H.length + 1) (bD_ rfl)
 have p2 := m1.at (i := H.length + 2) (cN_ rfl)
 have mH1 : aJ_ H H1 := (aJ_.app _ _).trans m1
 simp (disch := (first | omega | (simp only [ls_, la_, lc_, ln_]; first | done | omega))) only [ai_, aC_, go_sem, reduceEqDiff, Nat.reduceAdd, reduceLeDiff, ↓reduceIte, p0, dg_, Option.map_some]
 refine aa_.call (hat _ (mH1.add _)) ?_
 obtain ⟨Hx, hHx⟩ : ∃ Hx, Hx = H1 ++ [⟨.ty 74, 4, [[.val (.int .i64 j), .val (.int .i64 1), .val (.string n), .own ls s.length]]⟩] := ⟨_, rfl⟩
 rw [← hHx]
 have lx : Hx.length = H1.length + 1 := by rw [hHx]; simp
 have mHx : aJ_ H Hx := by rw [hHx]; exact mH1.add _
 have hx : ∀ y, y < H1.length → Hx[y]? = H1[y]? := fun y hy => by rw [hHx]; exact ai_ hy
 have x0 := (hx _ (by omega)).trans p0
 have x1 := (hx _ (by omega)).trans p1
 have x2 := (hx _ (by omega)).trans p2
 have xF : Hx[H1.length]? = some ⟨.ty 74, 4, [[.val (.int .i64 j), .val (.int .i64 1), .val (.string n), .own ls s.length]]⟩ := by rw [hHx]; exact aC_ rfl
 have xr : Hx[lh]? = _ := (mHx.kept lh hlt0).trans hr
 obtain ⟨nq, nf, nn1, nn2, nn3⟩ := gQ_ (v1 := .int .i64 j) (v2 := .int .i64 1) (v3 := .string n) F1 (by simp; omega)
 simp only [la_, lc_, ln_] at nn3
 obtain ⟨nt, hnt⟩ : ∃ nt : Tr, nt = ⟨[.val (.int .i64 j), .val (.int .i64 1), .val (.string n), .own ls s.length], ab_.cells ⟨j, 1, n, s⟩, nf⟩ := ⟨_, rfl⟩
 have hntc : nt.c = [.val (.int .i64 j), .val (.int .i64 1), .val (.string n), .own ls s.length] := by rw [hnt]
 have hntd : nt.d = ab_.cells ⟨j, 1, n, s⟩ := by rw [hnt]
 have hntf : nt.f = nf := by rw [hnt]
 have hneg1 : ((-1 : Int) < 0) = True := eq_true (by omega)
 obtain ⟨d0, hd0, hge⟩ : ∃ d0 : Bool, bB_ x.Held j n s = d0 ∧ decide (0 ≤ iN_ x j n s) = d0 := by
  rcases qZ_ hl j n s with ⟨h1, h2⟩ | ⟨h1, h2⟩
  ·exact ⟨false, h1, by rw [h2]; rfl⟩
  ·exact ⟨true, h1, by rw [h2]; exact decide_eq_true (by omega)⟩
 simp (disch := (first | omega | (simp only [ls_, la_, lc_, ln_]; first | done | omega))) only [go_sem, ↓reduceIte, hge]
 refine aD_ (fun m t h => ∃ (i : Nat) (em ins : List Tr) (d : Bool), t 1 = .val (.int .i64 j) ∧ t 2 = .val (.string n) ∧ t 3 = sa ∧ t 4 = .ptr H.length 1 0 0 ∧ t 8 = .ptr (H.length + 1) 1 0 0 ∧ t 9 = .own (H.length + 2) em.length ∧ t 10 = .ptr H1.length 1 0 0 ∧ t 11 = .val (.int .i64 (iN_ x j n s)) ∧ t 12 = .val (.bool d) ∧ t 13 = .val (.int .i64 i) ∧
  Hx.length ≤ h.length ∧ (∀ y, y < Hx.length → y ≠ H.length + 2 → h[y]? = Hx[y]?) ∧ h[H.length + 2]? = some ⟨.ty 74, 4, em.map Tr.c⟩ ∧ em.Perm (ins ++ thb.take i) ∧ (ins = [] ∨ ins = [nt]) ∧ (d = false → ins = []) ∧ (bB_ x.Held j n s = true → d = true) ∧ em.map Tr.d ++ (cn_ j n s (x.Held.drop i) d).map ab_.cells = (d4_ x.Held j n s).map ab_.cells ∧ em.length ≤ i + 1 ∧ m = x.Held.length - i ∧ i ≤ x.Held.length) x.Held.length ?_ ?_
 ·refine ⟨0, [], [], d0, rfl, rfl, rfl, by simp [upd], by simp [upd], by simp [upd], by simp [upd], by simp [upd], by simp [upd], by simp [upd], Nat.le_refl _, fun _ _ _ => rfl, x2, List.Perm.refl _, .inl rfl, fun _ => rfl, fun z => by rw [← hd0, z], ?_, by simp, rfl, Nat.zero_le _⟩
  rw [map_nil, nil_append, drop_zero, ← hd0, lg_ hl.sorted]
 rintro J hJ m t h ⟨i, em, ins, d, t1, t2, t3, t4, t8, t9, t10, t11, t12, t13, hle, hkp, oG, hperm, hins, hins2, hkd, hdat, hlenem, rfl, hi'⟩
 have o0 := (hkp H.length (by omega) (by omega)).trans x0
 have o1 := (hkp (H.length + 1) (by omega) (by omega)).trans x1
 have oF := (hkp H1.length (by omega) (by omega)).trans xF
 have hrh := (hkp lh (by omega) (by omega)).trans xr
 have mh0 : aJ_ H h := ⟨by omega, fun y hy => (hkp y (by omega) (by omega)).trans (mHx.kept y hy)⟩
 by_cases hlt : i < x.Held.length
 ·have him : i < mh := by omega
  have hit : i < th.length := by omega
  have hitb : i < thb.length := by omega
  obtain ⟨hbd, c4, cq, cf, hc0, ho4, hc4, hbc⟩ := b6 i hlt hit hitb
  have hcell := hc0
  simp only [AV.cell, Value.oneCell'] at hcell
  have hcnt := hl.held _ (getElem_mem hlt)
  simp only [dl_, bv_, Bool.and_eq_true, decide_eq_true_eq] at hcnt
  have hless : ∀ r : Row, aa_ Tryz.prog 71 [.val (.string n), sa, .val (.string x.Held[i].Name), c4] (h ++ [r]) (.val (.bool (c2_ n.data.toList (bss s) x.Held[i].Name.data.toList (bss x.Held[i].Subs)))) := fun r => aa_.anyR rfl (fun h => fK_ n s x.Held[i].Name x.Held[i].Subs (cd_ ht).2.1 (ab_.sz_Subs (bT_ (ac_.sz_Held hl.big) (getElem_mem hlt))) h) (aP_.cons (br_.same rfl) (aP_.cons (hsa _ (mh0.add _)) (aP_.cons (br_.same rfl) (aP_.cons (bg_.any (.inr ⟨_, _, ho4.keep fun y hy => (mh0.add [r]).kept y (ho4.lt y hy)⟩)) aP_.nil))))
  rcases qZ_ hl j n s with ⟨k1, k2⟩ | ⟨k1, k2⟩
  ·have hb0 := pd_ k1 _ (getElem_mem hlt)
   rw [hb0] at hbc hbd
   rw [k2] at t11
   have hne : ((i : Int) = -1) = False := eq_false (by omega)
   have hkk := p5_ j n s x.Held[i]
   cases d with
   | true =>
    have hstep : (!true && aT_ ⟨j, 0, n, s⟩ x.Held[i]) = false := rfl
    simp (disch := (first | omega | (simp only [ls_, la_, lc_, ln_]; first | done | omega))) only [ai_, aC_, bD_, go_sem, reduceEqDiff, Nat.reduceAdd, reduceLeDiff, Int.reduceNeg, ↓reduceIte, hne, t4, t9, t11, t12, t13, o0, hrh, oG, him, hc4, hcell, aR_, Int.zero_add, Nat.zero_add, Nat.sub_zero]
    repeat (refine And.intro (by first | omega | (exact strs_cellv _) | assumption | (simp; done)) ?_)
    refine ⟨x.Held.length - (i + 1), by omega, hJ _ _ _ ⟨i + 1, em ++ [thb[i]], ins, true, by simp [upd, t1], by simp [upd, t2], by simp [upd, t3], by simp [upd, t4], by simp [upd, t8], by simp [upd], by simp [upd, t10], by simp [upd, t11, k2], by simp [upd, t12], by simp [upd], by simp; omega, fun y q1 q2 => ?_, ?_, by
     rw [take_succ_eq_append_getElem (by omega), ← append_assoc]
     exact List.Perm.append_right _ hperm, hins, (fun q => by cases q), (fun _ => rfl), ?_, by simp; omega, rfl, by omega⟩⟩
    ·(repeat (first | rw [ae_ (by omega)] | rw [ai_ (by first | omega | (simp only [ls_, la_, lc_, ln_]; omega))])); exact hkp y q1 q2
    ·rw [az_ (by simp; omega)]; simp only [map_append, map_cons, map_nil, hbc]
    ·rw [← hdat, drop_eq_getElem_cons hlt]
     simp only [cn_, hstep, map_append, map_cons, map_nil, append_assoc, cons_append, nil_append, hbd, hb0, Bool.false_eq_true, if_false]
   | false =>
    have hem0 : em.length = i := by
     have := hperm.length_eq
     rw [hins2 rfl, nil_append, length_take] at this
     omega
    by_cases c1 : j < x.Held[i].Job
    ·have hstep : (!false && aT_ ⟨j, 0, n, s⟩ x.Held[i]) = true := by rw [hkk, decide_eq_true c1]; rfl
     have c1' : (j < x.Held[i].Job) = True := eq_true c1
     simp (disch := (first | omega | (simp only [ls_, la_, lc_, ln_]; first | done | omega))) only [ae_, az_, ai_, aC_, bD_, ls_, go_sem, reduceEqDiff, Nat.reduceAdd, reduceLeDiff, Int.reduceNeg, ↓reduceIte, hne, c1', t1, t4, t9, t10, t11, t12, t13, o0, hrh, oF, oG, him, hc4, hcell, aR_, Int.zero_add, Nat.zero_add, Nat.sub_zero]
     repeat (refine And.intro (by first | omega | (exact strs_cellv _) | assumption | (simp; done)) ?_)
     refine ⟨x.Held.length - (i + 1), by omega, hJ _ _ _ ⟨i + 1, em ++ [nt] ++ [thb[i]], [nt], true, by simp [upd, t1], by simp [upd, t2], by simp [upd, t3], by simp [upd, t4], by simp [upd, t8], by simp [upd], by simp [upd, t10], by simp [upd, t11, k2], by simp [upd], by simp [upd], by simp; omega, fun y q1 q2 => ?_, ?_, by
     rw [take_succ_eq_append_getElem (by omega)]
     have e0 : ins = [] := hins2 rfl
     rw [e0, nil_append] at hperm
     have : (em ++ [nt] ++ [thb[i]]).Perm ([nt] ++ em ++ [thb[i]]) := List.Perm.append_right _ perm_append_comm
     refine this.trans ?_
     rw [append_assoc]
     exact List.Perm.append_left _ (List.Perm.append_right _ hperm), .inr rfl, (fun q => by cases q), (fun _ => rfl), ?_, by simp; omega, rfl, by omega⟩⟩
     ·(repeat (first | rw [ae_ (by omega)] | rw [ai_ (by first | omega | (simp only [ls_, la_, lc_, ln_]; omega))])); exact hkp y q1 q2
     ·rw [az_ (by simp; omega)]; simp only [map_append, map_cons, map_nil, append_assoc, cons_append, nil_append, hbc, hntc]
     ·rw [← hdat, drop_eq_getElem_cons hlt]
      simp only [cn_, hstep, map_append, map_cons, map_nil, append_assoc, cons_append, nil_append, hbd, hntd, hb0, if_true]
    have c1' : (j < x.Held[i].Job) = False := eq_false c1
    by_cases c2 : x.Held[i].Job = j
    ·have c2' : (x.Held[i].Job = j) = True := eq_true c2
     simp (disch := (first | omega | (simp only [ls_, la_, lc_, ln_]; first | done | omega))) only [aC_, go_sem, reduceEqDiff, Nat.reduceAdd, Int.reduceNeg, ↓reduceIte, hne, c1', c2', t1, t2, t3, t4, t11, t12, t13, o0, hrh, him, hc4, hcell, Int.zero_add, Nat.zero_add, Nat.sub_zero]
     refine aa_.call (hless _) ?_
     cases c3 : c2_ n.data.toList (bss s) x.Held[i].Name.data.toList (bss x.Held[i].Subs)
     ·have hstep : (!false && aT_ ⟨j, 0, n, s⟩ x.Held[i]) = false := by rw [hkk, decide_eq_false c1, c3]; simp
      simp (disch := (first | omega | (simp only [ls_, la_, lc_, ln_]; first | done | omega))) only [ai_, aC_, bD_, go_sem, reduceEqDiff, Nat.reduceAdd, reduceLeDiff, Int.reduceNeg, ↓reduceIte, t9, t13, oG, hcell, aR_, Nat.zero_add]
      repeat (refine And.intro (by first | omega | (exact strs_cellv _) | assumption | (simp; done)) ?_)
      refine ⟨x.Held.length - (i + 1), by omega, hJ _ _ _ ⟨i + 1, em ++ [thb[i]], ins, false, by simp [upd, t1], by simp [upd, t2], by simp [upd, t3], by simp [upd, t4], by simp [upd, t8], by simp [upd], by simp [upd, t10], by simp [upd, t11, k2], by simp [upd, t12], by simp [upd], by simp; omega, fun y q1 q2 => ?_, ?_, by
     rw [take_succ_eq_append_getElem (by omega), ← append_assoc]
     exact List.Perm.append_right _ hperm, hins, hins2, hkd, ?_, by simp; omega, rfl, by omega⟩⟩
      ·(repeat (first | rw [ae_ (by omega)] | rw [ai_ (by first | omega | (simp only [ls_, la_, lc_, ln_]; omega))])); exact hkp y q1 q2
      ·rw [az_ (by simp; omega)]; simp only [map_append, map_cons, map_nil, hbc]
      ·rw [← hdat, drop_eq_getElem_cons hlt]
       simp only [cn_, hstep, map_append, map_cons, map_nil, append_assoc, cons_append, nil_append, hbd, hb0, Bool.false_eq_true, if_false]
     ·have hstep : (!false && aT_ ⟨j, 0, n, s⟩ x.Held[i]) = true := by rw [hkk, decide_eq_true c2, c3]; simp
      simp (disch := (first | omega | (simp only [ls_, la_, lc_, ln_]; first | done | omega))) only [ae_, az_, ai_, aC_, bD_, ls_, go_sem, reduceEqDiff, Nat.reduceAdd, reduceLeDiff, Int.reduceNeg, ↓reduceIte, t9, t10, t13, oF, oG, hcell, aR_, Nat.zero_add]
      repeat (refine And.intro (by first | omega | (exact strs_cellv _) | assumption | (simp; done)) ?_)
      refine ⟨x.Held.length - (i + 1), by omega, hJ _ _ _ ⟨i + 1, em ++ [nt] ++ [thb[i]], [nt], true, by simp [upd, t1], by simp [upd, t2], by simp [upd, t3], by simp [upd, t4], by simp [upd, t8], by simp [upd], by simp [upd, t10], by simp [upd, t11, k2], by simp [upd], by simp [upd], by simp; omega, fun y q1 q2 => ?_, ?_, by
     rw [take_succ_eq_append_getElem (by omega)]
     have e0 : ins = [] := hins2 rfl
     rw [e0, nil_append] at hperm
     have : (em ++ [nt] ++ [thb[i]]).Perm ([nt] ++ em ++ [thb[i]]) := List.Perm.append_right _ perm_append_comm
     refine this.trans ?_
     rw [append_assoc]
     exact List.Perm.append_left _ (List.Perm.append_right _ hperm), .inr rfl, (fun q => by cases q), (fun _ => rfl), ?_, by simp; omega, rfl, by omega⟩⟩
      ·(repeat (first | rw [ae_ (by omega)] | rw [ai_ (by first | omega | (simp only [ls_, la_, lc_, ln_]; omega))])); exact hkp y q1 q2
      ·rw [az_ (by simp; omega)]; simp only [map_append, map_cons, map_nil, append_assoc, cons_append, nil_append, hbc, hntc]
      ·rw [← hdat, drop_eq_getElem_cons hlt]
       simp only [cn_, hstep, map_append, map_cons, map_nil, append_assoc, cons_append, nil_append, hbd, hntd, hb0, if_true]
    ·have c2' : (x.Held[i].Job = j) = False := eq_false c2
     have hstep : (!false && aT_ ⟨j, 0, n, s⟩ x.Held[i]) = false := by rw [hkk, decide_eq_false c1, decide_eq_false c2]; rfl
     simp (disch := (first | omega | (simp only [ls_, la_, lc_, ln_]; first | done | omega))) only [ai_, aC_, bD_, go_sem, reduceEqDiff, Nat.reduceAdd, reduceLeDiff, Int.reduceNeg, ↓reduceIte, hne, c1', c2', t1, t4, t9, t11, t12, t13, o0, hrh, oG, him, hc4, hcell, aR_, Int.zero_add, Nat.zero_add, Nat.sub_zero]
     repeat (refine And.intro (by first | omega | (exact strs_cellv _) | assumption | (simp; done)) ?_)
     refine ⟨x.Held.length - (i + 1), by omega, hJ _ _ _ ⟨i + 1, em ++ [thb[i]], ins, false, by simp [upd, t1], by simp [upd, t2], by simp [upd, t3], by simp [upd, t4], by simp [upd, t8], by simp [upd], by simp [upd, t10], by simp [upd, t11, k2], by simp [upd, t12], by simp [upd], by simp; omega, fun y q1 q2 => ?_, ?_, by
     rw [take_succ_eq_append_getElem (by omega), ← append_assoc]
     exact List.Perm.append_right _ hperm, hins, hins2, hkd, ?_, by simp; omega, rfl, by omega⟩⟩
     ·(repeat (first | rw [ae_ (by omega)] | rw [ai_ (by first | omega | (simp only [ls_, la_, lc_, ln_]; omega))])); exact hkp y q1 q2
     ·rw [az_ (by simp; omega)]; simp only [map_append, map_cons, map_nil, hbc]
     ·rw [← hdat, drop_eq_getElem_cons hlt]
      simp only [cn_, hstep, map_append, map_cons, map_nil, append_assoc, cons_append, nil_append, hbd, hb0, Bool.false_eq_true, if_false]
  ·have hdt : d = true := hkd k1
   subst hdt
   rw [k2] at t11
   have hstep : (!true && aT_ ⟨j, 0, n, s⟩ x.Held[i]) = false := rfl
   by_cases c0 : i = bi_ x.Held j n s
   ·have hne : ((i : Int) = (bi_ x.Held j n s : Int)) = True := eq_true (by omega)
    have hb1 : (cR_ j n s x.Held[i]).Count = x.Held[i].Count + 1 := by
     have : cs_ j n s x.Held[i] = true := by
      obtain ⟨hm0, hk0⟩ := gD_ hl.sorted k1
      subst c0; exact hk0
     rw [cR_, if_pos this]; rfl
    rw [hb1] at hbc
    simp (disch := (first | omega | (simp only [ls_, la_, lc_, ln_]; first | done | omega))) only [ai_, aC_, bD_, go_sem, reduceEqDiff, Nat.reduceAdd, reduceLeDiff, ↓reduceIte, hne, t4, t9, t11, t12, t13, o0, hrh, oG, him, hc4, hcell, aR_, Int.zero_add, Nat.zero_add, Nat.sub_zero]
    repeat (refine And.intro (by first | omega | (exact strs_cellv _) | assumption | (simp; done)) ?_)
    refine ⟨x.Held.length - (i + 1), by omega, hJ _ _ _ ⟨i + 1, em ++ [thb[i]], ins, true, by simp [upd, t1], by simp [upd, t2], by simp [upd, t3], by simp [upd, t4], by simp [upd, t8], by simp [upd], by simp [upd, t10], by simp [upd, t11, k2], by simp [upd, t12], by simp [upd], by simp; omega, fun y q1 q2 => ?_, ?_, by
     rw [take_succ_eq_append_getElem (by omega), ← append_assoc]
     exact List.Perm.append_right _ hperm, hins, (fun q => by cases q), (fun _ => rfl), ?_, by simp; omega, rfl, by omega⟩⟩
    ·(repeat (first | rw [ae_ (by omega)] | rw [ai_ (by first | omega | (simp only [ls_, la_, lc_, ln_]; omega))])); exact hkp y q1 q2
    ·rw [az_ (by simp; omega)]; simp only [map_append, map_cons, map_nil, hbc]
    ·rw [← hdat, drop_eq_getElem_cons hlt]
     simp only [cn_, hstep, map_append, map_cons, map_nil, append_assoc, cons_append, nil_append, hbd, Bool.false_eq_true, if_false]
   ·have hne : ((i : Int) = (bi_ x.Held j n s : Int)) = False := eq_false (by omega)
    have hb1 : cR_ j n s x.Held[i] = x.Held[i] := by
     rw [cR_, if_neg (fun z => c0 (g6_ hl.sorted hlt z))]
    rw [hb1] at hbc hbd
    simp (disch := (first | omega | (simp only [ls_, la_, lc_, ln_]; first | done | omega))) only [ai_, aC_, bD_, go_sem, reduceEqDiff, Nat.reduceAdd, reduceLeDiff, ↓reduceIte, hne, t4, t9, t11, t12, t13, o0, hrh, oG, him, hc4, hcell, aR_, Int.zero_add, Nat.zero_add, Nat.sub_zero]
    repeat (refine And.intro (by first | omega | (exact strs_cellv _) | assumption | (simp; done)) ?_)
    refine ⟨x.Held.length - (i + 1), by omega, hJ _ _ _ ⟨i + 1, em ++ [thb[i]], ins, true, by simp [upd, t1], by simp [upd, t2], by simp [upd, t3], by simp [upd, t4], by simp [upd, t8], by simp [upd], by simp [upd, t10], by simp [upd, t11, k2], by simp [upd, t12], by simp [upd], by simp; omega, fun y q1 q2 => ?_, ?_, by
     rw [take_succ_eq_append_getElem (by omega), ← append_assoc]
     exact List.Perm.append_right _ hperm, hins, (fun q => by cases q), (fun _ => rfl), ?_, by simp; omega, rfl, by omega⟩⟩
    ·(repeat (first | rw [ae_ (by omega)] | rw [ai_ (by first | omega | (simp only [ls_, la_, lc_, ln_]; omega))])); exact hkp y q1 q2
    ·rw [az_ (by simp; omega)]; simp only [map_append, map_cons, map_nil, hbc]
    ·rw [← hdat, drop_eq_getElem_cons hlt]
     simp only [cn_, hstep, map_append, map_cons, map_nil, append_assoc, cons_append, nil_append, hbd, hb1, Bool.false_eq_true, if_false]
 ·have hi2 : i = x.Held.length := by omega
  subst hi2
  rw [drop_length] at hdat
  have hownnt : ∀ h' : List Row, (∀ y, y < H1.length → H.length + 3 ≤ y → h'[y]? = H1[y]?) → H1.length ≤ h'.length → ∃ q, ∀ t ∈ [nt], at_ (Own h' q) t.c t.d t.f := fun h' q1 q2 => ⟨nq, fun t ht => by
   rw [mem_singleton.1 ht, hnt]
   exact at_.mono (fun a r g hg ho => ho.keep fun y hy => q1 y (nn3 y (hg y hy)).2 (by have := nn3 y (hg y hy); omega)) nn1⟩
  have hwide : ∀ t ∈ [nt], t.c.length = 4 ∧ t.c.all AV.cell = true := fun t ht => by rw [mem_singleton.1 ht, hntc]; exact ⟨rfl, rfl⟩
  have hnf : (([nt] : List Tr).map Tr.f).flatten = nf := by simp [hntf]
  have hH1 : ∀ y, y < H1.length → y ≠ H.length + 2 → h[y]? = H1[y]? := fun y q1 q2 => (hkp y (by omega) q2).trans (hx y q1)
  have hthm : thb.take x.Held.length = thb.take mh := by rw [hmh]
  rw [hthm] at hperm
  have hfin : ((x.Held.length : Int) < (mh : Int)) = False := eq_false (by omega)
  have hfin2 : th.length = mh → ((x.Held.length : Int) < (th.length : Int)) = False := fun e => eq_false (by omega)
  cases d with
  | true =>
   have hdat2 : em.map Tr.d = (d4_ x.Held j n s).map ab_.cells := by rw [← hdat]; simp [cn_]
   simp (disch := (first | omega | (simp only [ls_, la_, lc_, ln_]; first | done | omega))) only [ae_, az_, go_sem, reduceEqDiff, Nat.reduceAdd, reduceLeDiff, ↓reduceIte, t4, t8, t9, t12, t13, o0, o1, hrh, hfin, cb, Nat.sub_zero, c4_]
   exact hk2 _ em ins ⟨by simp; omega, fun y hy => by rw [ae_ (by omega), ae_ (by omega)]; exact mh0.kept y hy⟩ (by rw [ae_ (by omega), ae_ (by omega)]; exact oG) hperm (fun t ht => by
    rcases hins with e | e
    ·rw [e] at ht; cases ht
    ·rw [e] at ht; exact hwide t ht) (by
    rcases hins with e | e
    ·exact ⟨0, fun t ht => by rw [e] at ht; cases ht⟩
    ·rw [e]; exact hownnt _ (fun y q1 q2 => by rw [ae_ (by omega), ae_ (by omega)]; exact hH1 y q1 (by omega)) (by simp; omega)) (by
    rcases hins with e | e
    ·rw [e]; exact nodup_nil
    ·rw [e, hnf]; exact nn2) (fun y hy => by
    rcases hins with e | e
    ·rw [e] at hy; cases hy
    ·rw [e, hnf] at hy; have := nn3 y hy; simp; omega) hdat2
  | false =>
   have hdat2 : (em ++ [nt]).map Tr.d = (d4_ x.Held j n s).map ab_.cells := by rw [← hdat]; simp [cn_, hntd]
   simp (disch := (first | omega | (simp only [ls_, la_, lc_, ln_]; first | done | omega))) only [ae_, az_, ai_, aC_, go_sem, reduceEqDiff, Nat.reduceAdd, reduceLeDiff, ↓reduceIte, t4, t8, t9, t10, t12, t13, o0, o1, oF, oG, hrh, hfin, cb, Nat.sub_zero, c4_]
   refine ⟨by omega, by omega, ?_⟩
   have hel : em.length + 1 = (em ++ [nt]).length := by simp
   rw [hins2 rfl, nil_append] at hperm
   rw [hel]
   exact hk2 _ (em ++ [nt]) [nt] ⟨by simp; omega, fun y hy => by rw [ae_ (by omega), ae_ (by omega), ae_ (by omega), ai_ (by omega)]; exact mh0.kept y hy⟩ (by rw [ae_ (by omega), ae_ (by omega), az_ (by simp; omega), map_append, map_cons, map_nil, hntc]) ((List.Perm.append_right _ hperm).trans perm_append_comm) hwide (hownnt _ (fun y q1 q2 => by rw [ae_ (by omega), ae_ (by omega), ae_ (by omega), ai_ (by omega)]; exact hH1 y q1 (by omega)) (by simp; omega)) (by rw [hnf]; exact nn2) (fun y hy => by rw [hnf] at hy; have := nn3 y hy; simp; omega) hdat2
theorem uL_ {k l n sz : Nat} {H : List Row} {ds : List (List AV)} {f : List Nat} (h : Own H k (.own l n) (.list 0 sz ds) f) : ∃ row, H[l]? = some row ∧ row.es.length = n ∧ n = ds.length := by
 cases k with
 | zero => exact h.elim
 | succ k =>
  obtain ⟨row, es, f, h1, h2, h3, h4, _⟩ := h
  simp only [AV.list.injEq, true_and] at h4
  refine ⟨row, h1, h2, ?_⟩
  obtain ⟨ts, e1, e2, _, _⟩ := a0_.trs h3
  rw [h4.2, ← e2, length_map, ← h2, ← e1, length_map]
theorem py_ {lo : Nat} {H : List Row} {x : ac_} {a b : AV} {F : List Nat} (k : KV lo H x a b F) (hl : bS_ x) (j : Int) {n : ByteArray} {s : List ByteArray} {sa : AV} (hs : s.length ≤ 1048576) (hsa : br_ H sa (.list 0 1 (s.map au_))) {K : AV → List Row → Prop}
 (hk : ∀ H' l row, aJ_ H H' → H'[l]? = some row → row.es.length = (da_ x j n s).length → K (.own l (da_ x j n s).length) H') : callSem Tryz.prog 74 [.agg [a, b], .val (.int .i64 j), .val (.string n), sa] H K := by
 refine jM_ (iv_ x j n s hl.big hs) (aP_.cons k.arg (aP_.cons (br_.same rfl) (aP_.cons (br_.same rfl) (aP_.cons hsa aP_.nil)))) (fun av H' m F q => ?_)
 obtain ⟨k', b', ⟨l, c, rfl⟩, rfl⟩ := q
 obtain ⟨q, fs, h1, _, _⟩ := F.tree
 have h2 : Own H' q (.own (l + k') c) (.list 0 1 (ax_ (da_ x j n s))) fs := h1
 obtain ⟨row, e1, e2, e3⟩ := uL_ h2
 have e4 : c = (da_ x j n s).length := by rw [e3]; simp [ax_]
 subst e4
 exact hk H' _ row m e1 e2
theorem r2_ {lo : Nat} {H : List Row} {x : ac_} {a b : AV} {F : List Nat} (k : KV lo H x a b F) (hl : bS_ x) (j : Int) {n : ByteArray} {s : List ByteArray} {sa : AV} (hsa : br_ H sa (.list 0 1 (s.map au_))) :
 aa_ Tryz.prog 91 [.agg [a, b], .val (.int .i64 j), .val (.string n), sa] H (.val (.bool (ds_ x.Held j n s))) :=
 aa_.anyR rfl (fun h => kS_ x hl j n s h) (aP_.cons k.arg (aP_.cons (br_.same rfl) (aP_.cons (br_.same rfl) (aP_.cons hsa aP_.nil))))
theorem ru_ {α : Type} (p : α → Bool) (l : List α) (i : Nat) (hi : i < l.length) (h1 : p l[i] = true) (h2 : ∀ (k : Nat) (hk : k < i), p l[k] = false) : aQ_ p l 0 = ((0 + i : Nat) : Int) := by
 rcases dn_ p l 0 with ⟨_, h⟩ | ⟨i', hi', e, q1, q2⟩
 ·rw [h _ (getElem_mem hi)] at h1; cases h1
 ·rw [e]
  rcases Nat.lt_trichotomy i' i with z | z | z
  ·rw [h2 i' z] at q1; cases q1
  ·rw [z]
  ·rw [q2 i z] at h1; cases h1
theorem sq_ {α : Type} (p : α → Bool) (l : List α) (h : ∀ (k : Nat) (hk : k < l.length), p l[k] = false) : aQ_ p l 0 = -1 := by
 rcases dn_ p l 0 with ⟨e, _⟩ | ⟨i', hi', _, q1, _⟩
 ·exact e
 ·rw [h i' hi'] at q1; cases q1
def c56 : LC :=
 .q [.o [.bx 1 32 0, .s 2 (.alloc 32 z0z), .nl 3], .o [.s 8 (.buildSlice 2 1 (.int .i64 0) 0 []), .m 4 8], .q [.o [.ki 5 0], .block 0 (.loop (.q [.q [.o [.m 9 5, .fa 10 1 1, .ln 11 10, .ll 12 11, .bb 13 .lss false 9 12],
 .k 13 .skip (.exit 0)], .block 1 (.q [.o [.fa 16 1 1, .ln 17 16, .m 18 5, .ia 19 4 17 18, .ld 20 4 19, .s 6 (.alloc 64 (.agg #[.int .i64 0, .int .i64 0, .string ⟨#[]⟩, .slice none 0 0])), .st 4 6 20], .q [.o [.ld 21 2 1,
 .fa 22 0 6, .ln 23 22, .fa 24 2 6, .ln 25 24, .fa 26 3 6, .ln 27 26, .s 28 (.call 74 [.tmp 21, .tmp 23, .tmp 25, .tmp 27]), .ll 29 28, .bk 30 .gtr false 29 0], .k 30 (.exit 1) .skip], .o [.ld 31 2 1, .fa 32 0 6, .ln 33
 32, .fa 34 2 6, .ln 35 34, .fa 36 3 6, .ln 37 36, .s 38 (.call 91 [.tmp 31, .tmp 33, .tmp 35, .tmp 37]), .m 7 38], .o [.ld 39 2 1, .m 40 5, .c2 41 92 39 40, .st 2 1 41], .q [.o [.m 42 7], .k 42 (.o [.ld 43 2 1, .fa 44 0
 6, .ln 45 44, .fa 46 2 6, .ln 47 46, .fa 48 3 6, .ln 49 48, .s 50 (.call 93 [.tmp 43, .tmp 45, .tmp 47, .tmp 49]), .st 2 1 50]) .skip], .o [.m 51 4, .fa 52 0 6, .ln 53 52, .s 54 (.buildSlice 2 1 (.int .i64 0) 1 [(0, .tmp
 53)]), .ap 55 2 1 8 51 54, .m 4 55], .o [.s 5 (.mov (.const (.int .i64 (-1))))]]), .o [.m 14 5, .bk 15 .add false 14 1, .m 5 15]]))], .o [.ld 56 2 1, .m 57 4, .st 2 2 56, .m 3 57], .ret]
def xw_ : LF := ⟨1, 58, c56, [.cell 2 (some 2), .tmp 3]⟩
theorem yn_ : ay_ Tryz.prog Tryz.f56 xw_ := ak_
theorem jY_ {lo : Nat} {H : List Row} {x : ac_} {a : AV} {lb nb : Nat} {F : List Nat} (k : KV lo H x a (.own lb nb) F) (hl : bS_ x) {K : AV → List Row → Prop}
 (hk : ∀ H' a' b' F' J, aJ_ H H' → KV lo H' (b2_ x).1 a' b' F' → (∀ y ∈ F', y ∈ F ∨ H.length ≤ y) → H.length ≤ J → J ∉ F' → H'[J]? = some ⟨.ty 2, 1, ax_ (b2_ x).2⟩ → K (.tup [.agg [a', b'], .own J (b2_ x).2.length]) H') : callSem Tryz.prog 56 [.agg [a, .own lb nb]] H K := by
 refine aO_ mixed Tryz.func56 yn_ (be_ rfl ?_)
 have hlow := k.low
 have ca := k.cells.1
 simp only [AV.cell, Value.oneCell'] at ca
 simp (disch := (first | omega | (simp only [ls_, la_, lc_, ln_]; first | done | omega))) only [go_sem, Nat.reduceAdd, Int.reduceNeg, ↓reduceIte, xw_, c56, ca]
 refine aD_ (fun m t h => ∃ (i : Nat) (y : ac_) (out : List Int) (ac : AV) (lc nc : Nat) (F' : List Nat), t 1 = .ptr H.length 1 0 0 ∧ t 2 = .ptr (H.length + 1) 1 0 0 ∧ t 4 = .own (H.length + 2) out.length ∧ t 5 = .val (.int .i64 i) ∧ aJ_ H h ∧ h[H.length]? = some ⟨.ty 32, 2, [[ac, .own lc nc]]⟩ ∧
  h[H.length + 1]? = some ⟨.ty 32, 2, [[.val (.slice none 0 0), .val (.slice none 0 0)]]⟩ ∧ h[H.length + 2]? = some ⟨.ty 2, 1, ax_ out⟩ ∧ H.length + 2 < h.length ∧ KV lo h y ac (.own lc nc) F' ∧ bS_ y ∧ (∀ z ∈ F', z ∈ F ∨ H.length + 3 ≤ z) ∧ (∀ (q : Nat) (hq : q < y.Asks.length), q < i → dJ_ y y.Asks[q] = false) ∧ i ≤ y.Asks.length ∧
  out.length + y.Asks.length ≤ 4 ∧ m = y.Asks.length * 8 + (y.Asks.length - i) ∧ b2_ x = ((cL_ y.Asks.length y).1, out ++ (cL_ y.Asks.length y).2)) (x.Asks.length * 8 + x.Asks.length) ?_ ?_
 ·exact ⟨0, x, [], a, lb, nb, F, rfl, rfl, rfl, rfl, aJ_.app _ _, aC_ rfl, bD_ rfl, cN_ rfl, by simp, k.more (aJ_.app _ _), hl, fun z q => .inl q, fun q hq z => absurd z (Nat.not_lt_zero q), Nat.zero_le _, by have := hl.alen; simp; omega, rfl, rfl⟩
 rintro J hJ m t h ⟨i, y, out, ac, lc, nc, F', t1, t2, t4, t5, hM, o0, o1, o2, hlen, hK, hI, hF', hno, hi', hout, rfl, hS⟩
 have cc := hK.cells.1
 have hcc := cc
 simp only [AV.cell, Value.oneCell'] at hcc
 have hKl := hK.low
 have n0 : ∀ z ∈ F', H.length + 3 ≤ z ∨ z < H.length := fun z hz => (hF' z hz).elim (fun q => .inr (hlow z q).2) .inl
 obtain ⟨lh, mh, th, la, ma, ta, kl, hFe⟩ := id hK
 have hr := kl.asks.row
 have hma := kl.ma_eq
 have hmt : ma = ta.length ∧ la = lc ∧ ta.length = nc := by
  rcases kl.hb with e | ⟨e, e2⟩
  ·cases e
  ·simp only [AV.own.injEq] at e; exact ⟨e2, e.1.symm, e.2.symm⟩
 obtain ⟨hm1, rfl, hm2⟩ := hmt
 subst hm2
 have hal := hI.alen
 by_cases hlt : i < y.Asks.length
 ·have hit : i < ta.length := by omega
  obtain ⟨_, _, hid⟩ := lN_ kl hlt
  obtain ⟨kk, htree⟩ := kl.asks.tree
  have ht2 := htree ta[i] (getElem_mem hit)
  rw [hid] at ht2
  obtain ⟨c4, e4, hc4, ho4⟩ := hm_ ht2
  have hgt := hI.asks _ (getElem_mem hlt)
  rw [Bool.and_eq_true] at hgt
  have hc4' := hc4
  simp only [AV.cell, Value.oneCell'] at hc4'
  have hsa : ∀ H', aJ_ h H' → br_ H' c4 (.list 0 1 (y.Asks[i].Subs.map au_)) := fun H' m => bg_.any (.inr ⟨_, _, ho4.keep fun z hz => m.kept z (ho4.lt z hz)⟩)
  have hz := mP_ y y.Asks[i].Job y.Asks[i].Name y.Asks[i].Subs
  simp (disch := (first | omega | (simp only [ls_, la_, lc_, ln_]; first | done | omega))) only [ai_, aC_, go_sem, reduceEqDiff, Nat.reduceAdd, Int.reduceNeg, ↓reduceIte, t1, t5, o0, hr, hit, e4, hc4', Nat.zero_add]
  refine py_ (hK.more (aJ_.app _ _)) hI y.Asks[i].Job (cd_ hgt.2).2.2 (hsa _ (aJ_.app _ _)) (fun H1 lz row m1 q1 q2 => ?_)
  have mh1 : aJ_ h H1 := (aJ_.app _ _).trans m1
  have l1 := m1.len
  simp only [la_, lc_, ln_] at l1
  have p0 := mh1.at o0
  have p1 := mh1.at o1
  have p2 := mh1.at o2
  have pA := m1.at (fl_ h _)
  by_cases hm : dJ_ y y.Asks[i] = true
  case neg =>
   have hm' : fb_ y y.Asks[i].Job y.Asks[i].Name y.Asks[i].Subs = false := by simpa [dJ_] using hm
   rw [hm'] at hz
   have hz' : (0 < ((da_ y y.Asks[i].Job y.Asks[i].Name y.Asks[i].Subs).length : Int)) = True := eq_true (by have := of_decide_eq_false hz; omega)
   simp (disch := (first | omega | (simp only [ls_, la_, lc_, ln_]; first | done | omega))) only [go_sem, reduceEqDiff, Int.reduceNeg, ↓reduceIte, t5, q1, q2, hz', aR_]
   exact ⟨y.Asks.length * 8 + (y.Asks.length - (i + 1)), by omega, hJ _ _ _ ⟨i + 1, y, out, ac, la, ta.length, F', by simp [upd, t1], by simp [upd, t2], by simp [upd, t4], by simp [upd], hM.trans mh1, p0, p1, p2, by omega, hK.more mh1, hI, hF', fun q hq z => by
    rcases Nat.lt_or_ge q i with w | w
    ·exact hno q hq w
    ·have : q = i := by omega
     subst this
     exact hm', by omega, hout, rfl, hS⟩⟩
  have hm' : fb_ y y.Asks[i].Job y.Asks[i].Name y.Asks[i].Subs = true := by simpa [dJ_] using hm
  rw [hm'] at hz
  have hz' : (0 < ((da_ y y.Asks[i].Job y.Asks[i].Name y.Asks[i].Subs).length : Int)) = False := eq_false (by have := of_decide_eq_true hz; omega)
  simp (disch := (first | omega | (simp only [ls_, la_, lc_, ln_]; first | done | omega))) only [go_sem, reduceEqDiff, Nat.reduceAdd, Int.reduceNeg, ↓reduceIte, t1, q1, q2, hz', p0, pA]
  refine aa_.call (r2_ (hK.more mh1) hI y.Asks[i].Job (hsa _ mh1)) ?_
  have hless := kq_ (getElem?_eq_getElem hlt)
  have hlenA : (bH_ y i y.Asks[i]).Asks.length + 1 = y.Asks.length := hless
  have hI3 : bS_ ⟨y.Held, y.Asks.eraseIdx i⟩ := hI.cut i
  cases qr : ds_ y.Held y.Asks[i].Job y.Asks[i].Name y.Asks[i].Subs
  all_goals
   simp (disch := (first | omega | (simp only [ls_, la_, lc_, ln_]; first | done | omega))) only [go_sem, reduceEqDiff, Nat.reduceAdd, Int.reduceNeg, ↓reduceIte, t1, t5, p0]
   refine ji_ (hK.more mh1) hI hlt (fun H2 l2 n2 F2 m2 K2 s2 => ?_)
   have mh2 : aJ_ h H2 := mh1.trans m2
   have l2' := m2.len
   have x0 := m2.at p0
   have x1 := m2.at p1
   have x2 := m2.at p2
   have xA := m2.at pA
   have sF : ∀ z ∈ F2, (z ∈ F ∨ H.length + 3 ≤ z) := fun z hz => (s2 z hz).elim (hF' z) fun w => .inr (by omega)
   have sF' : ∀ z ∈ F2, z < H.length ∨ H.length + 3 ≤ z := fun z hz => (sF z hz).imp (fun w => (hlow z w).2) id
   simp (disch := (first | omega | (simp only [ls_, la_, lc_, ln_]; first | done | omega))) only [ae_, az_, ai_, aC_, ls_, go_sem, reduceEqDiff, Nat.reduceAdd, reduceLeDiff, Int.reduceNeg, Int.reduceAdd, ↓reduceIte, t1, t4, x0, x2, xA, hcc]
  ·have hgx : bH_ y i y.Asks[i] = ⟨y.Held, y.Asks.eraseIdx i⟩ := by rw [bH_, if_neg (by rw [qr]; simp)]
   have K5 : KV lo H2 (bH_ y i y.Asks[i]) ac (.own l2 n2) F2 := by rw [hgx]; exact K2
   have s5 := sF
   have s5' := sF'
   have w0 := x0
   have w1 := x1
   have w2 := x2
   have wA := xA
   have k5 : ∀ z, z < H.length → H2[z]? = H[z]? := fun z hz => ((hM.trans mh2).kept z hz)
   try simp (disch := (first | omega | (simp only [ls_, la_, lc_, ln_]; first | done | omega))) only [ae_, az_, ai_, aC_, bD_, cN_, ri_, ls_, go_sem, reduceEqDiff, Nat.reduceAdd, reduceLeDiff, reduceCtorEq, Int.reduceLT, Int.reduceLE, Int.reduceNeg, Int.reduceSub, Int.reduceAdd, Int.reduceToNat, ↓reduceIte, t1, t2, t4, t5, w0, w1, w2, wA, bC_, hcc, hc4', aR_]
   repeat (refine And.intro (by first | omega | (exact strs_cellv _) | assumption | (simp; done)) ?_)
   refine ⟨(bH_ y i y.Asks[i]).Asks.length * 8 + (bH_ y i y.Asks[i]).Asks.length, by omega, hJ _ _ _ ⟨0, bH_ y i y.Asks[i], out ++ [y.Asks[i].Job], ac, l2, n2, F2, by simp [upd, t1], by simp [upd, t2], by simp [upd], by simp [upd], ⟨by simp; omega, fun z hz => ?_⟩, by (repeat (first | rw [ae_ (by omega)] | rw [ai_ (by first | omega | (simp only [ls_]; omega))])); exact az_ (by omega), by (repeat (first | rw [ae_ (by omega)] | rw [ai_ (by first | omega | (simp only [ls_]; omega))])); exact w1, ?_, by simp; omega, K5.keep (fun z hz => ?_) (by simp), fC_ hI (getElem?_eq_getElem hlt), s5, fun q hq z => absurd z (Nat.not_lt_zero q), Nat.zero_le _, by simp; omega, rfl, ?_⟩⟩
   ·(repeat (first | rw [ae_ (by omega)] | rw [ai_ (by first | omega | (simp only [ls_]; omega))])); exact k5 z hz
   ·rw [az_ (by simp; omega)]
   ·have h6 := s5' z hz
    have h7 := (K5.low z hz).2
    (repeat (first | rw [ae_ (by omega)] | rw [ai_ (by first | omega | (simp only [ls_]; omega))]))
   ·rw [hS, ← hless, hw_ (ru_ _ _ _ hlt hm (fun q hq => hno q (by omega) hq)) hlt]
    simp
  ·have hgx : bH_ y i y.Asks[i] = ⟨d4_ y.Held y.Asks[i].Job y.Asks[i].Name y.Asks[i].Subs, y.Asks.eraseIdx i⟩ := by rw [bH_, if_pos qr]
   have K3 : KV lo (H2.set H.length ⟨.ty 32, 2, [[ac, .own l2 n2]]⟩) ⟨y.Held, y.Asks.eraseIdx i⟩ ac (.own l2 n2) F2 := K2.keep (fun z hz => ae_ (by have := sF' z hz; omega)) (by simp)
   refine kA_ K3 hI3 y.Asks[i].Job hgt.2 (fun H' m => ?_) (fun H4 a4 F4 m4 K4 s4 => ?_)
   ·refine bg_.any (.inr ⟨_, _, ho4.keep fun z hz => ?_⟩)
    have hzF : z ∈ F' := by rw [hFe]; exact mem_append_right _ (dV_ (getElem_mem hit) hz)
    have hzl := ho4.lt z hz
    have := n0 z hzF
    rw [m.kept z (by simp; omega), ae_ (by omega)]; exact mh2.kept z hzl
   have l4 := m4.len
   simp only [ls_] at l4
   rw [← hgx] at K4
   have K5 := K4
   have s5 : ∀ z ∈ F4, (z ∈ F ∨ H.length + 3 ≤ z) := fun z hz => (s4 z hz).elim (sF z) fun w => .inr (by simp at w; omega)
   have s5' : ∀ z ∈ F4, z < H.length ∨ H.length + 3 ≤ z := fun z hz => (s5 z hz).imp (fun w => (hlow z w).2) id
   have w0 := m4.at (az_ (r := ⟨.ty 32, 2, [[ac, .own l2 n2]]⟩) (show H.length < H2.length by omega))
   have w1 := m4.at ((ae_ (show H.length ≠ H.length + 1 by omega)).trans x1)
   have w2 := m4.at ((ae_ (show H.length ≠ H.length + 2 by omega)).trans x2)
   have wA := m4.at ((ae_ (show H.length ≠ h.length by omega)).trans xA)
   have c4a := K4.cells.1
   simp only [AV.cell, Value.oneCell'] at c4a
   have k5 : ∀ z, z < H.length → H4[z]? = H[z]? := fun z hz => by rw [m4.kept z (by simp; omega), ae_ (by omega)]; exact (hM.trans mh2).kept z hz
   simp (disch := (first | omega | (simp only [ls_, la_, lc_, ln_]; first | done | omega))) only [ae_, ai_, aC_, ls_, go_sem, reduceEqDiff, Nat.reduceAdd, reduceLeDiff, Int.reduceNeg, Int.reduceAdd, ↓reduceIte, t1, t4, w0, w2, wA, bC_, c4a, aR_]
   repeat (refine And.intro (by first | omega | (exact strs_cellv _) | assumption | (simp; done)) ?_)
   refine ⟨(bH_ y i y.Asks[i]).Asks.length * 8 + (bH_ y i y.Asks[i]).Asks.length, by omega, hJ _ _ _ ⟨0, bH_ y i y.Asks[i], out ++ [y.Asks[i].Job], a4, l2, n2, F4, by simp [upd, t1], by simp [upd, t2], by simp [upd], by simp [upd], ⟨by simp; omega, fun z hz => ?_⟩, by (repeat (first | rw [ae_ (by omega)] | rw [ai_ (by first | omega | (simp only [ls_]; omega))])); exact az_ (by omega), by (repeat (first | rw [ae_ (by omega)] | rw [ai_ (by first | omega | (simp only [ls_]; omega))])); exact w1, ?_, by simp; omega, K5.keep (fun z hz => ?_) (by simp), fC_ hI (getElem?_eq_getElem hlt), s5, fun q hq z => absurd z (Nat.not_lt_zero q), Nat.zero_le _, by simp; omega, rfl, ?_⟩⟩
   ·(repeat (first | rw [ae_ (by omega)] | rw [ai_ (by first | omega | (simp only [ls_]; omega))])); exact k5 z hz
   ·rw [az_ (by simp; omega)]
   ·have h6 := s5' z hz
    have h7 := (K5.low z hz).2
    (repeat (first | rw [ae_ (by omega)] | rw [ai_ (by first | omega | (simp only [ls_]; omega))]))
   ·rw [hS, ← hless, hw_ (ru_ _ _ _ hlt hm (fun q hq => hno q (by omega) hq)) hlt]
    simp
 ·have hi2 : i = y.Asks.length := by omega
  subst hi2
  have hstop : aQ_ (dJ_ y) y.Asks 0 = -1 := sq_ _ _ fun q hq => hno q hq hq
  rw [kn_ hstop, append_nil] at hS
  have e1 : (b2_ x).1 = y := by rw [hS]
  have e2 : (b2_ x).2 = out := by rw [hS]
  rw [e1, e2] at hk
  have hfin : ((y.Asks.length : Int) < (ta.length : Int)) = False := eq_false (by omega)
  simp (disch := (first | omega | (simp only [ls_, la_, lc_, ln_]; first | done | omega))) only [az_, go_sem, reduceEqDiff, Nat.reduceAdd, Int.reduceNeg, ↓reduceIte, t1, t2, t4, t5, o0, o1, hr, hfin, hcc, lo_]
  exact hk _ _ _ F' _ ⟨by simp; omega, fun z hz => by (repeat (first | rw [ae_ (by omega)] | rw [ai_ (by first | omega | (simp only [ls_, la_, lc_, ln_]; omega))])); exact hM.kept z hz⟩ (hK.keep (fun z hz => ae_ (by have := n0 z hz; omega)) (by simp)) (fun z hz => (hF' z hz).imp id fun w => by omega) (by omega) (fun z => by have := n0 _ z; omega) (by (repeat (first | rw [ae_ (by omega)] | rw [ai_ (by first | omega | (simp only [ls_, la_, lc_, ln_]; omega))])); exact o2)
theorem mu_ {lo : Nat} {H : List Row} {J : Nat} {E : Tag} (hr : H[J]? = some ⟨E, 1, []⟩) (h1 : lo ≤ J) : aS_ lo H.length H (.own J 0) (.list 0 1 (ax_ [])) := pe_ (out := []) hr h1 (List.getElem?_eq_some_iff.1 hr).1
theorem a7_.pick {lo E sz l m l' : Nat} {H H' : List Row} {ts em : List Tr} (s : a7_ lo H E sz l m ts) (hsub : em.Sublist ts) (hrow : H'[l']? = some ⟨.ty E, sz, em.map Tr.c⟩) (hk : ∀ y ∈ aE_ l ts, y ≠ l → H'[y]? = H[y]?) (hl : H.length ≤ l') (hlen : H.length ≤ H'.length) : a7_ lo H' E sz l' em.length em ∧ ∀ y ∈ aE_ l' em, y ∈ aE_ l ts ∨ y = l' := by
 refine ⟨s.renew (new := []) hrow (Nat.le_refl _) (List.Perm.refl _) hsub (fun t ht => absurd ht not_mem_nil) ⟨0, fun t ht => absurd ht not_mem_nil⟩ nodup_nil (fun y hy => absurd hy not_mem_nil) (fun y hy => ?_) (.inr hl) hlen, fun y hy => ?_⟩
 ·exact hk y (mem_cons_of_mem _ hy) (fun e => (nodup_cons.1 s.one).1 (e ▸ hy))
 ·rcases mem_cons.1 hy with e | e
  ·exact .inr e
  ·exact .inl (mem_cons_of_mem _ ((eM_ (hsub.map Tr.f)).subset e))
theorem a7_.down {lo lo' E sz l m : Nat} {H : List Row} {ts : List Tr} (s : a7_ lo H E sz l m ts) (h : lo' ≤ lo) : a7_ lo' H E sz l m ts := ⟨s.row, s.le, s.wide, s.tree, s.one, fun x hx => by have := s.lows x hx; omega⟩
theorem KV.down {lo lo' : Nat} {H : List Row} {x : ac_} {a b : AV} {F : List Nat} (k : KV lo H x a b F) (h : lo' ≤ lo) : KV lo' H x a b F := by
 obtain ⟨lh, mh, th, la, ma, ta, k, e⟩ := k
 exact ⟨lh, mh, th, la, ma, ta, ⟨k.ha, k.hb, a7_.down k.held h, a7_.down k.asks h, k.hd, k.ad, k.apart⟩, e⟩
def c64 : LC :=
 .q [.o [.bx 2 32 0, .s 4 (.alloc 32 z0z), .nl 5], .o [.s 10 (.build z0z [(0, 1), (1, 1)] []), .s 6 (.alloc 32 z0z), .st 2 6 10], .o [.ld 11 2 2, .c1 12 55 11, .s 7 (.alloc 32 z0z), .st 2 7 12], .q [.o [.ki 8 0], .block 0
 (.ghost (.loop (.q [.q [.o [.m 13 8, .fa 14 0 7, .ln 15 14, .ll 16 15, .bb 17 .lss false 13 16], .k 17 .skip (.exit 0)], .block 1 (.q [.o [.fa 20 0 7, .ln 21 20, .m 22 8, .ia 23 4 21 22, .fa 24 0 23, .ln 25 24, .m 26 1,
 .bb 27 .neq false 25 26], .k 27 (.gops [.fa 28 0 6, .ln 29 28, .fa 30 0 7, .ln 31 30, .m 32 8, .ia 33 4 31 32, .ld 34 4 33] [(.s 35 (.buildSlice 74 4 (.agg #[.int .i64 0, .int .i64 0, .string ⟨#[]⟩, .slice none 0 0]) 1
 [(0, .tmp 34)]), [.fa 28 0 6, .ln 29 28]), (.ap 36 74 4 56 29 35, []), (.fa 37 0 6, []), (.st 1 37 36, [])]) .skip]), .o [.m 18 8, .bk 19 .add false 18 1, .m 8 19]])))], .q [.o [.ki 9 0], .block 2 (.ghost (.loop (.q [.q
 [.o [.m 38 9, .fa 39 1 7, .ln 40 39, .ll 41 40, .bb 42 .lss false 38 41], .k 42 .skip (.exit 2)], .block 3 (.q [.o [.fa 45 1 7, .ln 46 45, .m 47 9, .ia 48 4 46 47, .fa 49 0 48, .ln 50 49, .m 51 1, .bb 52 .neq false 50
 51], .k 52 (.gops [.fa 53 1 6, .ln 54 53, .fa 55 1 7, .ln 56 55, .m 57 9, .ia 58 4 56 57, .ld 59 4 58] [(.s 60 (.buildSlice 64 4 (.agg #[.int .i64 0, .int .i64 0, .string ⟨#[]⟩, .slice none 0 0]) 1 [(0, .tmp 59)]), [.fa
 53 1 6, .ln 54 53]), (.ap 61 64 4 56 54 60, []), (.fa 62 1 6, []), (.st 1 62 61, [])]) .skip]), .o [.m 43 9, .bk 44 .add false 43 1, .m 9 44]])))], .o [.ld 63 2 6, .c1 64 56 63, .ex 65 64 0, .ex 66 64 1, .st 2 4 65, .m 5
 66], .ret]
def vB_ : LF := ⟨2, 67, c64, [.cell 4 (some 2), .tmp 5]⟩
theorem x1_ : ay_ Tryz.prog Tryz.f64 vB_ := ak_
theorem kx_ (x : ac_) (j : Int) (hx : ac_.sz x ≤ 1048576) (hI : bS_ x) {h0 : List Row} {K : AV → List Row → Prop}
 (hk : ∀ H' a' b' F' J, aJ_ h0 H' → KV h0.length H' (b2_ (fx_ x j)).1 a' b' F' → h0.length ≤ J → J ∉ F' → H'[J]? = some ⟨.ty 2, 1, ax_ (b2_ (fx_ x j)).2⟩ → K (.tup [.agg [a', b'], .own J (b2_ (fx_ x j)).2.length]) H') : callSem Tryz.prog 64 [.agg (ac_.cells x), .val (.int .i64 j)] h0 K := by
 refine aO_ mixed Tryz.func64 x1_ (be_ rfl ?_)
 have hlen := hI.len
 have hal := hI.alen
 simp (disch := (first | omega | (simp only [ls_, la_, lc_, ln_]; first | done | omega))) only [aC_, cN_, go_sem, reduceEqDiff, Nat.reduceAdd, ↓reduceIte, vB_, c64, hc_, dg_, Option.map_some]
 refine lC_ x hx (fun H1 lh nh th la na ta m1 k1 => ?_)
 have l1 := m1.len
 simp only [la_, lc_, ln_] at l1
 have o1 := m1.at (i := h0.length + 1) (bD_ rfl)
 have o2 := m1.at (i := h0.length + 2) (cN_ rfl)
 have mh1 : aJ_ h0 H1 := (aJ_.app _ _).trans m1
 have hnh : nh = th.length ∧ na = ta.length := by
  rcases k1.ha with e | ⟨e, _⟩
  ·cases e
  ·rcases k1.hb with e2 | ⟨e2, _⟩
   ·cases e2
   ·simp only [AV.own.injEq, true_and] at e e2; exact ⟨e, e2⟩
 obtain ⟨rfl, rfl⟩ := hnh
 have hmh := k1.mh_eq
 have hma := k1.ma_eq
 have hrh := k1.held.row
 have hra := k1.asks.row
 have hlt1 := k1.held.lt
 have hlt2 := k1.asks.lt
 have hd : th.map Tr.d = x.Held.map ab_.cells := by have := k1.hd; rwa [take_length] at this
 have ha : ta.map Tr.d = x.Asks.map ad_.cells := by have := k1.ad; rwa [take_length] at this
 have low : ∀ y, (y ∈ aE_ lh th ∨ y ∈ aE_ la ta) → h0.length + 3 ≤ y ∧ y < H1.length := fun y hy => by
  have h3 := hy.elim (fun z => k1.held.lows y z) (fun z => k1.asks.lows y z)
  simp only [la_, lc_, ln_] at h3
  omega
 have hlh2 := low lh (.inl mem_cons_self)
 have hla2 := low la (.inr mem_cons_self)
 simp (disch := (first | omega | (simp only [ls_, la_, lc_, ln_]; first | done | omega))) only [aC_, go_sem, reduceEqDiff, Nat.reduceAdd, ↓reduceIte]
 refine eb_ _ (fun t => hk_ (E := .ty 32) (s := 2) (L := h0.length + 2) [] [.val (.slice none 0 0)] 74 4 ((ai_ (by omega)).trans o2)) ?_
 refine aD_ (fun n t h => ∃ (i : Nat) (em : List Tr), t 1 = .val (.int .i64 j) ∧ t 4 = .ptr (h0.length + 1) 1 0 0 ∧ t 6 = .ptr (h0.length + 2) 1 0 0 ∧ t 7 = .ptr H1.length 1 0 0 ∧ t 8 = .val (.int .i64 i) ∧ H1.length + 2 ≤ h.length ∧ (∀ y, y < H1.length → y ≠ h0.length + 2 → h[y]? = H1[y]?) ∧ h[H1.length]? = some ⟨.ty 32, 2, [[.own lh th.length, .own la ta.length]]⟩ ∧
  h[h0.length + 2]? = some ⟨.ty 32, 2, [[.own (H1.length + 1) em.length, .val (.slice none 0 0)]]⟩ ∧ h[H1.length + 1]? = some ⟨.ty 74, 4, em.map Tr.c⟩ ∧ em.Sublist (th.take i) ∧ em.map Tr.d = ((x.Held.take i).filter fun g => !decide (g.Job = j)).map ab_.cells ∧ n = x.Held.length - i ∧ i ≤ x.Held.length) x.Held.length ?_ ?_
 ·exact ⟨0, [], rfl, rfl, rfl, rfl, rfl, by simp, fun y q1 q2 => by (repeat (first | rw [ae_ (by omega)] | rw [ai_ (by first | omega | (simp only [ls_, la_, lc_, ln_]; omega))])), by (repeat (first | rw [ae_ (by omega)] | rw [ai_ (by first | omega | (simp only [ls_, la_, lc_, ln_]; omega))])); exact aC_ rfl, by rw [ai_ (by simp; omega), az_ (by simp; omega)]; simp, aC_ (by simp), List.Sublist.refl _, rfl, rfl, Nat.zero_le _⟩
 rintro J hJ n t h ⟨i, em, t1, t4, t6, t7, t8, hle, hkp, ob, oo, og, hsub, hdat, rfl, hi'⟩
 have hrh' := (hkp lh (by omega) (by omega)).trans hrh
 have o1' := (hkp (h0.length + 1) (by omega) (by omega)).trans o1
 have hel : em.length ≤ i := by have := hsub.length_le; rw [length_take] at this; omega
 by_cases hlt : i < x.Held.length
 ·have hit : i < th.length := by omega
  obtain ⟨_, _, hid⟩ := gR_ k1 hlt
  obtain ⟨kk, htree⟩ := k1.held.tree
  have ht2 := htree th[i] (getElem_mem hit)
  rw [hid] at ht2
  obtain ⟨c4, e4, hc4, _⟩ := fj_ ht2
  have hc4' := hc4
  simp only [AV.cell, Value.oneCell'] at hc4'
  have htk : th.take (i + 1) = th.take i ++ [th[i]] := take_succ_eq_append_getElem hit
  by_cases hj : x.Held[i].Job = j
  ·have hj' : (x.Held[i].Job = j) = True := eq_true hj
   simp (disch := (first | omega | (simp only [ls_, la_, lc_, ln_]; first | done | omega))) only [go_sem, reduceEqDiff, ↓reduceIte, t1, t7, t8, ob, hrh', hit, e4, hj', aR_, Nat.zero_add]
   exact ⟨x.Held.length - (i + 1), by omega, hJ _ _ _ ⟨i + 1, em, by simp [upd, t1], by simp [upd, t4], by simp [upd, t6], by simp [upd, t7], by simp [upd], hle, hkp, ob, oo, og, by rw [htk]; exact hsub.trans (sublist_append_left _ _), by rw [take_succ_eq_append_getElem hlt, filter_append, hdat]; simp [hj], rfl, by omega⟩⟩
  ·have hj' : (x.Held[i].Job = j) = False := eq_false hj
   simp (disch := (first | omega | (simp only [ls_, la_, lc_, ln_]; first | done | omega))) only [ae_, ai_, aC_, go_sem, reduceEqDiff, Nat.reduceAdd, reduceLeDiff, ↓reduceIte, t1, t6, t7, t8, ob, oo, og, hrh', hit, e4, hc4', hj', aR_, Nat.zero_add]
   repeat (refine And.intro (by first | omega | (exact strs_cellv _) | assumption | (simp; done)) ?_)
   refine ⟨x.Held.length - (i + 1), by omega, hJ _ _ _ ⟨i + 1, em ++ [th[i]], by simp [upd, t1], by simp [upd, t4], by simp [upd, t6], by simp [upd, t7], by simp [upd], by simp; omega, fun y q1 q2 => by (repeat (first | rw [ae_ (by omega)] | rw [ai_ (by first | omega | (simp only [ls_, la_, lc_, ln_]; omega))])); exact hkp y q1 q2, by (repeat (first | rw [ae_ (by omega)] | rw [ai_ (by first | omega | (simp only [ls_, la_, lc_, ln_]; omega))])); exact ob, ?_, ?_, by rw [htk]; exact List.Sublist.append hsub (List.Sublist.refl _), by rw [take_succ_eq_append_getElem hlt, filter_append, map_append, hdat]; simp [hj, hid], rfl, by omega⟩⟩
   ·rw [az_ (by simp; omega)]; simp
   ·rw [ae_ (by omega), az_ (by simp; omega)]; simp [e4]
 have e : i = x.Held.length := by omega
 subst e
 rw [take_length] at hdat
 have hfin : th.length = x.Held.length → ((x.Held.length : Int) < (th.length : Int)) = False := fun e => eq_false (by omega)
 simp (disch := (first | omega | (simp only [ls_, la_, lc_, ln_]; first | done | omega))) only [go_sem, reduceEqDiff, ↓reduceIte, t7, t8, ob, hrh', hfin]
 refine eb_ _ (fun t => hk_ (L := h0.length + 2) [.own (H1.length + 1) em.length] [] 64 4 oo) ?_
 obtain ⟨Hc, hHc⟩ : ∃ Hc, Hc = h := ⟨_, rfl⟩
 rw [← hHc] at ob og hkp hle
 rw [← hHc]
 clear hJ oo o1' hrh' hHc h J hlt
 refine aD_ (fun n t h => ∃ (i : Nat) (em2 : List Tr), t 1 = .val (.int .i64 j) ∧ t 4 = .ptr (h0.length + 1) 1 0 0 ∧ t 6 = .ptr (h0.length + 2) 1 0 0 ∧ t 7 = .ptr H1.length 1 0 0 ∧ t 9 = .val (.int .i64 i) ∧ Hc.length + 1 ≤ h.length ∧ (∀ y, y < Hc.length → y ≠ h0.length + 2 → h[y]? = Hc[y]?) ∧
  h[h0.length + 2]? = some ⟨.ty 32, 2, [[.own (H1.length + 1) em.length, .own Hc.length em2.length]]⟩ ∧ h[Hc.length]? = some ⟨.ty 64, 4, em2.map Tr.c⟩ ∧ em2.Sublist (ta.take i) ∧ em2.map Tr.d = ((x.Asks.take i).filter fun g => !decide (g.Job = j)).map ad_.cells ∧ n = x.Asks.length - i ∧ i ≤ x.Asks.length) x.Asks.length ?_ ?_
 ·exact ⟨0, [], by simp [upd, t1], by simp [upd, t4], by simp [upd, t6], by simp [upd, t7], by simp [upd], by simp, fun y q1 q2 => by (repeat (first | rw [ae_ (by omega)] | rw [ai_ (by first | omega | (simp only [ls_]; omega))])), by rw [ai_ (by simp; omega), az_ (by omega)]; simp, aC_ (by simp), List.Sublist.refl _, rfl, rfl, Nat.zero_le _⟩
 clear t1 t4 t6 t7 t8
 rintro J hJ n t h ⟨i, em2, t1, t4, t6, t7, t9, hle2, hkp2, oo, oa, hsub2, hdat2, rfl, hi2⟩
 have keep : ∀ y, y < H1.length → y ≠ h0.length + 2 → h[y]? = H1[y]? := fun y q1 q2 => (hkp2 y (by omega) q2).trans (hkp y q1 q2)
 have hra' := (keep la (by omega) (by omega)).trans hra
 have o1' := (keep (h0.length + 1) (by omega) (by omega)).trans o1
 have ob' := (hkp2 H1.length (by omega) (by omega)).trans ob
 have og' := (hkp2 (H1.length + 1) (by omega) (by omega)).trans og
 have hel2 : em2.length ≤ i := by have := hsub2.length_le; rw [length_take] at this; omega
 by_cases hlt : i < x.Asks.length
 ·have hit : i < ta.length := by omega
  obtain ⟨_, _, hid⟩ := lN_ k1 hlt
  obtain ⟨kk, htree⟩ := k1.asks.tree
  have ht2 := htree ta[i] (getElem_mem hit)
  rw [hid] at ht2
  obtain ⟨c4, e4, hc4, _⟩ := hm_ ht2
  have hc4' := hc4
  simp only [AV.cell, Value.oneCell'] at hc4'
  have htk : ta.take (i + 1) = ta.take i ++ [ta[i]] := take_succ_eq_append_getElem hit
  by_cases hj : x.Asks[i].Job = j
  ·have hj' : (x.Asks[i].Job = j) = True := eq_true hj
   simp (disch := (first | omega | (simp only [ls_, la_, lc_, ln_]; first | done | omega))) only [go_sem, reduceEqDiff, ↓reduceIte, t1, t7, t9, ob', hra', hit, e4, hj', aR_, Nat.zero_add]
   exact ⟨x.Asks.length - (i + 1), by omega, hJ _ _ _ ⟨i + 1, em2, by simp [upd, t1], by simp [upd, t4], by simp [upd, t6], by simp [upd, t7], by simp [upd], hle2, hkp2, oo, oa, by rw [htk]; exact hsub2.trans (sublist_append_left _ _), by rw [take_succ_eq_append_getElem hlt, filter_append, hdat2]; simp [hj], rfl, by omega⟩⟩
  ·have hj' : (x.Asks[i].Job = j) = False := eq_false hj
   simp (disch := (first | omega | (simp only [ls_, la_, lc_, ln_]; first | done | omega))) only [ae_, ai_, aC_, go_sem, reduceEqDiff, Nat.reduceAdd, reduceLeDiff, ↓reduceIte, t1, t6, t7, t9, ob', oo, oa, hra', hit, e4, hc4', hj', aR_, Nat.zero_add]
   repeat (refine And.intro (by first | omega | (exact strs_cellv _) | assumption | (simp; done)) ?_)
   refine ⟨x.Asks.length - (i + 1), by omega, hJ _ _ _ ⟨i + 1, em2 ++ [ta[i]], by simp [upd, t1], by simp [upd, t4], by simp [upd, t6], by simp [upd, t7], by simp [upd], by simp; omega, fun y q1 q2 => by (repeat (first | rw [ae_ (by omega)] | rw [ai_ (by first | omega | (simp only [ls_, la_, lc_, ln_]; omega))])); exact hkp2 y q1 q2, ?_, ?_, by rw [htk]; exact List.Sublist.append hsub2 (List.Sublist.refl _), by rw [take_succ_eq_append_getElem hlt, filter_append, map_append, hdat2]; simp [hj, hid], rfl, by omega⟩⟩
   ·rw [az_ (by simp; omega)]; simp
   ·rw [ae_ (by omega), az_ (by simp; omega)]; simp [e4]
 have e : i = x.Asks.length := by omega
 subst e
 rw [take_length] at hdat2
 have hfin2 : ta.length = x.Asks.length → ((x.Asks.length : Int) < (ta.length : Int)) = False := fun e => eq_false (by omega)
 simp (disch := (first | omega | (simp only [ls_, la_, lc_, ln_]; first | done | omega))) only [go_sem, reduceEqDiff, Nat.reduceAdd, ↓reduceIte, t6, t7, t9, ob', oo, hra', hfin2]
 have hs1 : em.Sublist th := hsub.trans (take_sublist _ _)
 have hs2 : em2.Sublist ta := hsub2.trans (take_sublist _ _)
 obtain ⟨p1, p2⟩ := a7_.pick k1.held hs1 og' (fun y hy _ => keep y (low y (.inl hy)).2 (by have := low y (.inl hy); omega)) (by omega) (by omega)
 obtain ⟨p3, p4⟩ := a7_.pick k1.asks hs2 oa (fun y hy _ => keep y (low y (.inr hy)).2 (by have := low y (.inr hy); omega)) (by omega) (by omega)
 have kK : KV h0.length h (fx_ x j) (.own (H1.length + 1) em.length) (.own Hc.length em2.length) (aE_ (H1.length + 1) em ++ aE_ Hc.length em2) := by
  refine ⟨_, em.length, em, _, em2.length, em2, ⟨.inr ⟨rfl, rfl⟩, .inr ⟨rfl, rfl⟩, a7_.down p1 (by simp), a7_.down p3 (by simp), by rw [take_length]; exact hdat, by rw [take_length]; exact hdat2, fun y hy hy2 => ?_⟩, rfl⟩
  rcases p2 y hy with z | z
  ·rcases p4 y hy2 with w | w
   ·exact k1.apart y z w
   ·have := low y (.inl z); omega
  ·rcases p4 y hy2 with w | w
   ·have := low y (.inr w); omega
   ·omega
 have hFl : ∀ y ∈ aE_ (H1.length + 1) em ++ aE_ Hc.length em2, h0.length + 3 ≤ y := fun y hy => by
  rcases mem_append.1 hy with z | z
  ·rcases p2 y z with w | w
   ·exact (low y (.inl w)).1
   ·omega
  ·rcases p4 y z with w | w
   ·exact (low y (.inr w)).1
   ·omega
 refine jY_ kK (hI.filter _ _) (fun H2 a2 b2 F2 J2 m2 K2 s2 hJ1 hJ2 hJ3 => ?_)
 have l2 := m2.len
 have w1 := m2.at o1'
 have c2 := K2.cells
 have ca2 := c2.1
 have cb2 := c2.2
 simp only [AV.cell, Value.oneCell'] at ca2 cb2
 simp (disch := (first | omega | (simp only [ls_, la_, lc_, ln_]; first | done | omega))) only [az_, go_sem, reduceEqDiff, Nat.reduceAdd, ↓reduceIte, t4, w1, ca2, cb2, lo_]
 have hF2 : ∀ y ∈ F2, h0.length + 3 ≤ y := fun y hy => (s2 y hy).elim (hFl y) fun w => by omega
 refine hk (H2.set (h0.length + 1) ⟨.ty 32, 2, [[a2, b2]]⟩) a2 b2 F2 J2 ⟨by simp; omega, fun y hy => ?_⟩ (K2.keep (fun y hy => ae_ (by have := hF2 y hy; omega)) (by simp)) (by omega) hJ2 (by rw [ae_ (by omega)]; exact hJ3)
 rw [ae_ (by omega), m2.kept y (by omega), keep y (by omega) (by omega)]; exact mh1.kept y hy
def c26 : LC :=
 .q [.o [.bx 2 32 0, .s 4 (.alloc 32 z0z), .nl 5, .ki 6 0], .q [.o [.ld 9 2 2, .c1 10 32 9, .nt 11 10, .m 12 11, .gm 13 12 false 1, .gc 14 12 false 52 13, .gu 15 12 false 14, .pt 16 12 15], .k 16 (.q [.o [.s 17 (.build
 z0z [(0, 1), (1, 1)] []), .s 18 (.buildSlice 2 1 (.int .i64 0) 0 []), .st 2 4 17, .m 5 18, .ki 6 1], .ret]) .skip], .o [.ld 20 2 2, .m 21 1, .c2 22 64 20 21, .m 19 22, .ex 23 19 0, .ex 24 19 1, .s 7 (.alloc 32 z0z), .st
 2 7 23, .m 8 24], .o [.ld 25 2 7, .m 26 8, .st 2 4 25, .m 5 26, .ki 6 0], .ret]
def ws_ : LF := ⟨2, 27, c26, [.cell 4 (some 2), .tmp 5, .tmp 6]⟩
theorem yr_ : ay_ Tryz.prog Tryz.f26 ws_ := ak_
theorem jv_ (x : ac_) (j : Int) (hx : ac_.sz x ≤ 1048576) : bp_ Tryz.prog 26 [.agg (ac_.cells x), .val (.int .i64 j)] (ic_ (aF_ x j)) tB_ := by
 refine hA_ mixed Tryz.func26 yr_ rfl (fun h0 => ?_)
 simp (disch := (first | omega | (simp only [ls_, la_, lc_, ln_]; first | done | omega))) only [aC_, go_sem, reduceEqDiff, Nat.reduceAdd, ↓reduceIte, ws_, c26, hc_]
 refine aa_.call (nb_ x hx _) ?_
 cases q : ch_ x
 ·have hR : aF_ x j = (f5_, [], 1) := by rw [aF_, q]; rfl
  rw [hR]
  simp (disch := (first | omega | (simp only [ls_, la_, lc_, ln_]; first | done | omega))) only [bD_, go_sem, reduceEqDiff, Nat.reduceAdd, ↓reduceIte, dg_, Option.map_some, eD_]
  exact ⟨⟨aJ_.app _ _, nf_ (mu_ (cN_ rfl) (by omega)) (by simp) _⟩, _, _, _, rfl, rfl, _, rfl⟩
 have hI := bS_.of q
 simp (disch := (first | omega | (simp only [ls_, la_, lc_, ln_]; first | done | omega))) only [go_sem, reduceEqDiff, ↓reduceIte]
 refine aa_.call (cG_ _ _) ?_
 cases qj : bv_ j 1 4
 ·have hR : aF_ x j = (f5_, [], 1) := by rw [aF_, q, qj]; rfl
  rw [hR]
  simp (disch := (first | omega | (simp only [ls_, la_, lc_, ln_]; first | done | omega))) only [bD_, go_sem, reduceEqDiff, Nat.reduceAdd, ↓reduceIte, dg_, Option.map_some, eD_]
  exact ⟨⟨aJ_.app _ _, nf_ (mu_ (cN_ rfl) (by omega)) (by simp) _⟩, _, _, _, rfl, rfl, _, rfl⟩
 have hR : aF_ x j = ((b2_ (fx_ x j)).1, (b2_ (fx_ x j)).2, 0) := by rw [aF_, q, qj]; rfl
 rw [hR]
 simp (disch := (first | omega | (simp only [ls_, la_, lc_, ln_]; first | done | omega))) only [aC_, go_sem, reduceEqDiff, Nat.reduceAdd, ↓reduceIte]
 refine kx_ x j hx hI (fun H2 a2 b2 F2 J2 m2 K2 hJ1 hJ2 hJ3 => ?_)
 have l2 := m2.len
 simp only [la_, lc_, ln_] at l2 hJ1
 have w1 := m2.at (i := h0.length + 1) (bD_ rfl)
 have c2 := K2.cells
 have ca := c2.1
 have cb := c2.2
 have ca2 := ca
 have cb2 := cb
 simp only [AV.cell, Value.oneCell'] at ca2 cb2
 simp (disch := (first | omega | (simp only [ls_, la_, lc_, ln_]; first | done | omega))) only [az_, ai_, aC_, go_sem, reduceEqDiff, Nat.reduceAdd, ↓reduceIte, w1, ca2, cb2, eD_]
 have hlow := K2.low
 simp only [la_, lc_, ln_] at hlow
 obtain ⟨lh2, mh2, th2, la2, ma2, ta2, kl2, rfl⟩ := K2
 have hJl := (List.getElem?_eq_some_iff.1 hJ3).1
 obtain ⟨H3, e3⟩ : ∃ H3, H3 = (H2 ++ [(⟨.ty 32, 2, [[a2, b2]]⟩ : Row)]).set (h0.length + 1) ⟨.ty 32, 2, [[a2, b2]]⟩ := ⟨_, rfl⟩
 rw [← e3]
 have k3 : ∀ y, y < H2.length → y ≠ h0.length + 1 → H3[y]? = H2[y]? := fun y q1 q2 => by rw [e3, ae_ (Ne.symm q2), ai_ q1]
 have l3 : H3.length = H2.length + 1 := by rw [e3]; simp
 refine ⟨⟨⟨by omega, fun y hy => ?_⟩, ?_⟩, a2, b2, _, ca, cb, _, rfl⟩
 ·rw [k3 y (by omega) (by omega), m2.kept y (by simp; omega)]; exact ai_ hy
 ·exact (t3_ (kl2.keep (H' := H3) (fun y hy => k3 y (hlow y (mem_append_left _ hy)).2 (by have := hlow y (mem_append_left _ hy); omega)) (fun y hy => k3 y (hlow y (mem_append_right _ hy)).2 (by have := hlow y (mem_append_right _ hy); omega)) (by omega)) (J := J2) (E := .ty 2) (by rw [k3 J2 hJl (by omega)]; exact hJ3) hJ2 (by simp; omega) 0).widen (by simp) (Nat.le_refl _)
end Go.Proofs.YtodgohgdnmifaaaGreatDoor
