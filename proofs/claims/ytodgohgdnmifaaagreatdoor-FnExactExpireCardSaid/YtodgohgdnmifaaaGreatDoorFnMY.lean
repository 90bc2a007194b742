/-
 Contracts of functions. Conditions: as each theorem says.
-/
import Derived.Test.YtodgohgdnmifaaaGreatDoorFnMP
namespace Go.Proofs.YtodgohgdnmifaaaGreatDoor
open Nat (reduceEqDiff reduceLeDiff)
open List
open Go.AW
set_option linter.unusedVariables false
set_option linter.unusedSimpArgs false
set_option maxRecDepth 4000
theorem uP_ {P : Program} {f : FuncId} {a b : AV} {l m : Nat} {ts : List Tr} {rest : List AV} {h : List Row} {K : AV → List Row → Prop} (ha : Sl a l m ts) (hc : callSem P f (.agg [.sub l ts.length 0 m, b] :: rest) h K) : callSem P f (.agg [a, b] :: rest) h K := by
 rcases ha with rfl | ⟨rfl, rfl⟩
 ·exact hc
 intro S w vals hm hgl hr
 refine hc S w vals hm hgl ?_
 simp only [aj_] at hr ⊢
 obtain ⟨v, r, hv, h1, h2⟩ := hr
 refine ⟨v, r, hv, ?_, h2⟩
 have h3 : ∃ vs, v = .agg vs ∧ aj_ S [.own l ts.length, b] vs.toList := by simpa only [Rep] using h1
 obtain ⟨vs, e, h4⟩ := h3
 have h5 : ∃ v1 r1, vs.toList = v1 :: r1 ∧ Rep S (.own l ts.length) v1 ∧ aj_ S [b] r1 := h4
 obtain ⟨v1, r1, h6, h7, h8⟩ := h5
 have h9 : aj_ S [.sub l ts.length 0 ts.length, b] vs.toList := ⟨v1, r1, h6, h7.own_sub, h8⟩
 show Rep S (.agg [.sub l ts.length 0 ts.length, b]) v
 unfold Rep
 exact ⟨vs, e, h9⟩
theorem sa_ {hs : List ac_} (hp : hs.Pairwise (fun a b => aR_ a b = true)) {j : Int} {n : ByteArray} {s : List ByteArray} (h : bD_ hs j n s = true) : hs.map (cT_ j n s) = hs.modify (bg_ hs j n s) (f3_ 1) := by
 have := k3_ hp j n s
 rw [h, fn_, d5_, if_pos h] at this
 exact this
theorem pm_ {hs : List ac_} {j : Int} {n : ByteArray} {s : List ByteArray} (h : bD_ hs j n s = false) : ∀ g ∈ hs, cT_ j n s g = g := fun g hg => by
 have : cw_ j n s g = false := by
  cases z : cw_ j n s g with
  | false => rfl
  | true => have := any_eq_true.2 ⟨g, hg, z⟩; unfold bD_ at h; rw [h] at this; cases this
 rw [cT_, if_neg (by rw [this]; simp)]
theorem r0_ {lo : Nat} {H : List Row} {x : ab_} {a b : AV} {lh mh : Nat} {th : List Tr} {la ma : Nat} {ta : List Tr} (k : KL lo H x a b lh mh th la ma ta) (hl : bP_ x) (j : Int) (n : ByteArray) (s : List ByteArray) :
 ∃ (thb : List Tr) (Hh : List Row), Hh.length = H.length + 1 ∧ (∀ y, y < H.length → y ≠ lh → Hh[y]? = H[y]?) ∧ bb_ lo Hh 74 4 lh mh thb ∧ aF_ lh thb = aF_ lh th ∧ thb.length = th.length ∧
  ∀ (i : Nat) (hi : i < x.Held.length) (ht : i < th.length) (htb : i < thb.length), thb[i].d = ac_.cells (cT_ j n s x.Held[i]) ∧ ∃ c4 q f, c4.cell = true ∧ Own H q c4 (.list 0 1 (x.Held[i].Subs.map ax_)) f ∧ th[i].c = [.val (.int .i64 x.Held[i].Job), .val (.int .i64 x.Held[i].Count), .val (.string x.Held[i].Name), c4] ∧
   thb[i].c = [.val (.int .i64 x.Held[i].Job), .val (.int .i64 (cT_ j n s x.Held[i]).Count), .val (.string x.Held[i].Name), c4] := by
 have elem : ∀ (i : Nat) (hi : i < x.Held.length) (ht : i < th.length), th[i].d = ac_.cells x.Held[i] ∧ ∃ c4 q f, c4.cell = true ∧ Own H q c4 (.list 0 1 (x.Held[i].Subs.map ax_)) f ∧ th[i].c = [.val (.int .i64 x.Held[i].Job), .val (.int .i64 x.Held[i].Count), .val (.string x.Held[i].Name), c4] := fun i hi ht => by
  obtain ⟨_, _, hd⟩ := h9_ k hi
  obtain ⟨q, hq⟩ := k.held.tree
  have ho := hq _ (getElem_mem ht)
  rw [hd] at ho
  obtain ⟨c4, e, hcell, ho4⟩ := hB_ ho
  exact ⟨hd, c4, q, _, hcell, ho4, e⟩
 cases hk : bD_ x.Held j n s
 ·refine ⟨th, H ++ [⟨.ty 32, 2, [[a, b]]⟩], by simp, fun y q _ => ag_ q, k.held.more (aK_.app _ _), rfl, rfl, fun i hi ht _ => ?_⟩
  obtain ⟨h1, c4, q, f, h2, h3, h4⟩ := elem i hi ht
  rw [pm_ hk _ (getElem_mem hi)]
  exact ⟨h1, c4, q, f, h2, h3, h4, h4⟩
 ·obtain ⟨hp, hf⟩ := gV_ hl.sorted hk
  have low1 : H.length ∉ aF_ lh th := fun z => by have := (k.held.lows _ z).2; omega
  have low2 : H.length ∉ aF_ la ta := fun z => by have := (k.asks.lows _ z).2; omega
  have hlo : lo ≤ H.length := by have := (k.held.lows lh mem_cons_self); omega
  have B : KB lo (H ++ [⟨.ty 32, 2, [[a, b]]⟩]) H.length x a b lh mh th la ma ta := ⟨aG_ rfl, k.more (aK_.app _ _), low1, low2, hlo⟩
  obtain ⟨hm, htp, _⟩ := h9_ k hp
  obtain ⟨hd0, c0, q0, f0, w1, w2, w3⟩ := elem _ hp htp
  obtain ⟨th', e1, e2, e3, B'⟩ := B.bumped hp htp 1 w3 hd0
  have hll := k.held.lt
  refine ⟨th', _, by simp, fun y q1 q2 => by rw [ad_ (Ne.symm q2), ag_ q1], B'.kl.held, e3, e1, fun i hi ht htb => ?_⟩
  obtain ⟨h1, c4, q, f, h2, h3, h4⟩ := elem i hi ht
  have hbm := sa_ hl.sorted hk
  obtain ⟨_, _, hd'⟩ := h9_ B'.kl (p := i) (by simpa using hi)
  have hg : (x.Held.modify (bg_ x.Held j n s) (f3_ 1))[i]'(by simpa using hi) = cT_ j n s x.Held[i] := by
   have := congrArg (fun z => z[i]?) hbm
   simp only [getElem?_map] at this
   rw [getElem?_eq_getElem hi, getElem?_eq_getElem (by simpa using hi)] at this
   simpa using this.symm
  refine ⟨by rw [hd']; exact congrArg _ hg, c4, q, f, h2, h3, h4, ?_⟩
  have hc : th'[i].c = ((th.map Tr.c).set (bg_ x.Held j n s) [.val (.int .i64 x.Held[bg_ x.Held j n s].Job), .val (.int .i64 (x.Held[bg_ x.Held j n s].Count + 1)), .val (.string x.Held[bg_ x.Held j n s].Name), c0])[i]'(by simpa using ht) := by
   have := congrArg (fun z => z[i]?) e2
   simp only [getElem?_map] at this
   rw [getElem?_eq_getElem htb, getElem?_eq_getElem (by simpa using ht)] at this
   simpa using this
  rw [hc, getElem_set]
  by_cases ei : bg_ x.Held j n s = i
  ·rw [if_pos ei]
   subst ei
   have hkk : cw_ j n s x.Held[bg_ x.Held j n s] = true := (gG_ hl.sorted hk).2
   rw [w3] at h4
   simp only [List.cons.injEq, true_and, and_true] at h4
   subst h4
   rw [cT_, if_pos hkk]; rfl
  ·rw [if_neg ei, getElem_map, h4, cT_, if_neg (fun z => ei (gT_ hl.sorted hi z).symm)]
theorem pN_ (j : Int) (n : ByteArray) (s : List ByteArray) (a : ac_) : aR_ ⟨j, 0, n, s⟩ a = (decide (j < a.Job) || (decide (a.Job = j) && c0_ n.data.toList (bss s) a.Name.data.toList (bss a.Subs))) := by
 have h := gD_ ⟨j, 0, n, s⟩ a
 rw [Bool.eq_iff_iff, h]
 simp only [Bool.or_eq_true, Bool.and_eq_true, decide_eq_true_eq]
 constructor
 ·rintro (q | ⟨q1, q2⟩)
  ·exact .inl q
  ·exact .inr ⟨q1.symm, q2⟩
 ·rintro (q | ⟨q1, q2⟩)
  ·exact .inl q
  ·exact .inr ⟨q1.symm, q2⟩
theorem q9_ {x : ab_} (hl : bP_ x) (j : Int) (n : ByteArray) (s : List ByteArray) : (bD_ x.Held j n s = false ∧ iJ_ x j n s = -1) ∨ (bD_ x.Held j n s = true ∧ iJ_ x j n s = (bg_ x.Held j n s : Int)) := by
 rcases hf_ (cw_ j n s) x.Held 0 with ⟨h1, h2⟩ | ⟨i, hi, h1, h2⟩
 ·refine .inl ⟨?_, h1⟩
  cases q : bD_ x.Held j n s with
  | false => rfl
  | true => obtain ⟨_, hf⟩ := gV_ hl.sorted q; rw [h2] at hf; cases hf
 ·have hk := find?_some h2
  refine .inr ⟨any_eq_true.2 ⟨_, getElem_mem hi, hk⟩, ?_⟩
  rw [← gT_ hl.sorted hi hk]
  exact h1.trans (by simp)
def c93 : LC :=
 .q [.o [.bx 4 32 0, .s 8 (.alloc 32 z0z)], .o [.s 15 (.buildSlice 74 4 (.agg #[.int .i64 0, .int .i64 0, .string ⟨#[]⟩, .slice none 0 0]) 0 []), .m 9 15], .o [.m 16 1, .m 17 2, .m 18 3, .c1 19 90 18, .s 20 (.build (.agg
 #[.int .i64 0, .int .i64 0, .string ⟨#[]⟩, .slice none 0 0]) [(0, 1), (1, 1), (2, 1), (3, 1)] [(0, .tmp 16), (1, .const (.int .i64 1)), (2, .tmp 17), (3, .tmp 19)]), .s 10 (.alloc 74 (.agg #[.int .i64 0, .int .i64 0,
 .string ⟨#[]⟩, .slice none 0 0])), .st 4 10 20], .o [.ld 21 2 4, .m 22 1, .m 23 2, .m 24 3, .s 25 (.call 54 [.tmp 21, .tmp 22, .tmp 23, .tmp 24]), .m 11 25], .o [.m 26 11, .bk 27 .geq false 26 0, .m 12 27], .q [.o [.ki
 13 0], .block 0 (.loop (.q [.q [.o [.m 28 13, .fa 29 0 4, .ln 30 29, .ll 31 30, .bb 32 .lss false 28 31], .k 32 .skip (.exit 0)], .block 1 (.q [.o [.fa 35 0 4, .ln 36 35, .m 37 13, .ia 38 4 36 37, .ld 39 4 38, .s 14
 (.alloc 74 (.agg #[.int .i64 0, .int .i64 0, .string ⟨#[]⟩, .slice none 0 0])), .st 4 14 39], .q [.o [.m 40 13, .m 41 11, .bb 42 .eql false 40 41], .k 42 (.o [.fa 43 1 14, .ln 44 43, .bk 45 .add false 44 1, .fa 46 1 14,
 .st 1 46 45]) .skip], .q [.o [.m 47 12, .nt 48 47, .m 49 48, .gf 50 49 true 0 14, .gn 51 49 true 50, .gm 52 49 true 1, .g 53 49 true (.bin .gtr false (.tmp 51) (.tmp 52)), .gm 54 49 true 53, .gf 55 54 false 0 14, .gn 56
 54 false 55, .gm 57 54 false 1, .g 58 54 false (.bin .eql false (.tmp 56) (.tmp 57)), .gm 59 54 false 58, .gm 60 59 true 2, .gm 61 59 true 3, .gf 62 59 true 2 14, .gn 63 59 true 62, .gf 64 59 true 3 14, .gn 65 59 true
 64, .g 66 59 true (.call 71 [.tmp 60, .tmp 61, .tmp 63, .tmp 65]), .g 67 54 false (.pick (.tmp 59) (.tmp 66) (.const (.bool false))), .g 68 49 true (.pick (.tmp 54) (.const (.bool true)) (.tmp 67)), .pf 69 49 68], .k 69
 (.q [.o [.m 70 9, .ld 71 4 10, .s 72 (.buildSlice 74 4 (.agg #[.int .i64 0, .int .i64 0, .string ⟨#[]⟩, .slice none 0 0]) 1 [(0, .tmp 71)]), .ap 73 74 4 56 70 72, .m 9 73], .o [.t 12]]) .skip], .o [.m 74 9, .ld 75 4 14,
 .s 76 (.buildSlice 74 4 (.agg #[.int .i64 0, .int .i64 0, .string ⟨#[]⟩, .slice none 0 0]) 1 [(0, .tmp 75)]), .ap 77 74 4 56 74 76, .m 9 77]]), .o [.m 33 13, .bk 34 .add false 33 1, .m 13 34]]))], .q [.o [.m 78 12, .nt
 79 78], .k 79 (.o [.m 80 9, .ld 81 4 10, .s 82 (.buildSlice 74 4 (.agg #[.int .i64 0, .int .i64 0, .string ⟨#[]⟩, .slice none 0 0]) 1 [(0, .tmp 81)]), .ap 83 74 4 56 80 82, .m 9 83]) .skip], .o [.m 84 9, .fa 85 0 4, .st
 1 85 84], .o [.ld 86 2 4, .st 2 8 86], .ret]
def xN_ : LF := ⟨4, 87, c93, [.cell 8 (some 2)]⟩
theorem yE_ : aA_ Tryz.prog Tryz.f93 xN_ := ak_
theorem kD_ {lo : Nat} {H : List Row} {x : ab_} {a b : AV} {F : List Nat} (k : KV lo H x a b F) (hl : bP_ x) (j : Int) {n : ByteArray} {s : List ByteArray} {sa : AV} (ht : cD_ n s = true) (hsa : ∀ H', aK_ H H' → bq_ H' sa (.list 0 1 (s.map ax_))) {K : AV → List Row → Prop}
 (hk : ∀ H' a' F', aK_ H H' → KV lo H' ⟨d5_ x.Held j n s, x.Asks⟩ a' b F' → (∀ y ∈ F', y ∈ F ∨ H.length ≤ y) → K (.agg [a', b]) H') : callSem Tryz.prog 93 [.agg [a, b], .val (.int .i64 j), .val (.string n), sa] H K := by
 obtain ⟨lh, mh, th, la, ma, ta, k0, hF⟩ := k
 refine uP_ k0.ha ?_
 have k : KL lo H x (.sub lh th.length 0 mh) b lh mh th la ma ta := ⟨.inl rfl, k0.hb, k0.held, k0.asks, k0.hd, k0.ad, k0.apart⟩
 clear k0
 refine aS_ mixed Tryz.func93 yE_ (bs_ rfl ?_)
 have hmh := k.mh_eq
 have hmt := k.held.le
 have hlen := hl.len
 have hr := k.held.row
 have hlt0 := k.held.lt
 have cb := k.hb.cell
 simp only [AV.cell, Value.oneCell'] at cb
 have hlow := (show KV lo H x _ b F from ⟨lh, mh, th, la, ma, ta, k, hF⟩).low
 obtain ⟨thb, Hh, b1, b2, b3, b4, b5, b6⟩ := r0_ k hl j n s
 have hat : ∀ H', aK_ H H' → aa_ Tryz.prog 54 [.agg [.sub lh th.length 0 mh, b], .val (.int .i64 j), .val (.string n), sa] H' (.val (.int .i64 (iJ_ x j n s))) := fun H' m => aa_.anyR rfl (fun h => i3_ x j n s hl.big h) (aO_.cons (k.more m).arg (aO_.cons (bq_.same rfl) (aO_.cons (bq_.same rfl) (aO_.cons (hsa H' m) aO_.nil))))
 have hk2 : ∀ (H' : List Row) (em ins : List Tr), aK_ H H' → H'[H.length + 2]? = some ⟨.ty 74, 4, em.map Tr.c⟩ → em.Perm (ins ++ thb.take mh) → (∀ t ∈ ins, t.c.length = 4 ∧ t.c.all AV.cell = true) → (∃ q, ∀ t ∈ ins, au_ (Own H' q) t.c t.d t.f) → (ins.map Tr.f).flatten.Nodup → (∀ y ∈ (ins.map Tr.f).flatten, H.length + 3 ≤ y ∧ y < H'.length) → em.map Tr.d = (d5_ x.Held j n s).map ac_.cells → K (.agg [.own (H.length + 2) em.length, b]) H' := fun H' em ins m q1 q2 q3 q4 q5 q6 q7 => by
  have hl' := (List.getElem?_eq_some_iff.1 q1).1
  have hsub : ∀ y, y ∈ aF_ (H.length + 2) em → y ∈ aF_ lh th ∨ H.length ≤ y := fun y hy => by
   rcases mem_cons.1 hy with e | e
   ·exact .inr (by omega)
   ·have h1 := ((q2.map Tr.f).flatten).mem_iff.1 e
    rw [map_append, flatten_append] at h1
    rcases mem_append.1 h1 with e2 | e2
    ·exact .inr (by have := q6 y e2; omega)
    ·rw [← b4]
     exact .inl (mem_cons_of_mem _ ((eM_ ((take_sublist _ _).map Tr.f)).subset e2))
  have hflow : ∀ y ∈ aF_ lh thb, y < H.length := fun y hy => by rw [b4] at hy; exact (k.held.lows y hy).2
  refine hk H' _ (aF_ (H.length + 2) em ++ aF_ la ta) m ⟨H.length + 2, em.length, em, la, ma, ta, ?_, rfl⟩ (fun y hy => ?_)
  ·refine k.setHeld (.inr ⟨rfl, rfl⟩) (b3.renew (new := ins) q1 (Nat.le_refl _) q2 (take_sublist _ _) q3 q4 q5 (fun y hy => ?_) (fun y hy => ?_) (.inr (by omega)) (by have := m.len; omega)) (by rw [take_length]; exact q7) (fun y hy => hsub y hy) (fun y hy => m.kept y (k.asks.lows y hy).2) m.len
   ·have h1 := q6 y hy
    exact ⟨fun z => by have := hflow y z; omega, by omega, by have := hlow lh (by rw [hF]; exact mem_append_left _ mem_cons_self); omega, h1.2⟩
   ·have h1 := hflow y (mem_cons_of_mem _ hy)
    have h2 : y ≠ lh := fun e => (nodup_cons.1 b3.one).1 (e ▸ hy)
    rw [m.kept y h1, b2 y h1 h2]
  ·rw [hF]
   rcases mem_append.1 hy with e | e
   ·exact (hsub y e).imp (fun z => mem_append_left _ z) id
   ·exact .inl (mem_append_right _ e)
 simp (disch := (first | omega | (simp only [ls_, la_, lc_, ln_]; first | done | omega))) only [go_sem, reduceEqDiff, Nat.reduceAdd, ↓reduceIte, xN_, c93, cb]
 refine jz_ (ek_ s (cg_ ht).2.2) (aO_.cons (hsa _ (aK_.app _ _)) aO_.nil) (fun av H1 m1 F1 q1 => ?_)
 obtain ⟨ls, rfl⟩ := q1
 have l1 := m1.len
 simp only [la_, lc_, ln_] at l1
 have p0 := m1.at (i := H.length) (aG_ rfl)
 have p1 := m1.at (i := H.length + 1) (bw_ rfl)
 have p2 := m1.at (i := H.length + 2) (cA_ rfl)
 have mH1 : aK_ H H1 := (aK_.app _ _).trans m1
 simp (disch := (first | omega | (simp only [ls_, la_, lc_, ln_]; first | done | omega))) only [ag_, aG_, go_sem, reduceEqDiff, Nat.reduceAdd, reduceLeDiff, ↓reduceIte, p0, dh_, Option.map_some]
 refine aa_.call (hat _ (mH1.add _)) ?_
 obtain ⟨Hx, hHx⟩ : ∃ Hx, Hx = H1 ++ [⟨.ty 74, 4, [[.val (.int .i64 j), .val (.int .i64 1), .val (.string n), .own ls s.length]]⟩] := ⟨_, rfl⟩
 rw [← hHx]
 have lx : Hx.length = H1.length + 1 := by rw [hHx]; simp
 have mHx : aK_ H Hx := by rw [hHx]; exact mH1.add _
 have hx : ∀ y, y < H1.length → Hx[y]? = H1[y]? := fun y hy => by rw [hHx]; exact ag_ hy
 have x0 := (hx _ (by omega)).trans p0
 have x1 := (hx _ (by omega)).trans p1
 have x2 := (hx _ (by omega)).trans p2
 have xF : Hx[H1.length]? = some ⟨.ty 74, 4, [[.val (.int .i64 j), .val (.int .i64 1), .val (.string n), .own ls s.length]]⟩ := by rw [hHx]; exact aG_ rfl
 have xr : Hx[lh]? = _ := (mHx.kept lh hlt0).trans hr
 obtain ⟨nq, nf, nn1, nn2, nn3⟩ := gM_ (v1 := .int .i64 j) (v2 := .int .i64 1) (v3 := .string n) F1 (by simp; omega)
 simp only [la_, lc_, ln_] at nn3
 obtain ⟨nt, hnt⟩ : ∃ nt : Tr, nt = ⟨[.val (.int .i64 j), .val (.int .i64 1), .val (.string n), .own ls s.length], ac_.cells ⟨j, 1, n, s⟩, nf⟩ := ⟨_, rfl⟩
 have hntc : nt.c = [.val (.int .i64 j), .val (.int .i64 1), .val (.string n), .own ls s.length] := by rw [hnt]
 have hntd : nt.d = ac_.cells ⟨j, 1, n, s⟩ := by rw [hnt]
 have hntf : nt.f = nf := by rw [hnt]
 have hneg1 : ((-1 : Int) < 0) = True := eq_true (by omega)
 obtain ⟨d0, hd0, hge⟩ : ∃ d0 : Bool, bD_ x.Held j n s = d0 ∧ decide (0 ≤ iJ_ x j n s) = d0 := by
  rcases q9_ hl j n s with ⟨h1, h2⟩ | ⟨h1, h2⟩
  ·exact ⟨false, h1, by rw [h2]; rfl⟩
  ·exact ⟨true, h1, by rw [h2]; exact decide_eq_true (by omega)⟩
 simp (disch := (first | omega | (simp only [ls_, la_, lc_, ln_]; first | done | omega))) only [go_sem, ↓reduceIte, hge]
 refine aE_ (fun m t h => ∃ (i : Nat) (em ins : List Tr) (d : Bool), t 1 = .val (.int .i64 j) ∧ t 2 = .val (.string n) ∧ t 3 = sa ∧ t 4 = .ptr H.length 1 0 0 ∧ t 8 = .ptr (H.length + 1) 1 0 0 ∧ t 9 = .own (H.length + 2) em.length ∧ t 10 = .ptr H1.length 1 0 0 ∧ t 11 = .val (.int .i64 (iJ_ x j n s)) ∧ t 12 = .val (.bool d) ∧ t 13 = .val (.int .i64 i) ∧
  Hx.length ≤ h.length ∧ (∀ y, y < Hx.length → y ≠ H.length + 2 → h[y]? = Hx[y]?) ∧ h[H.length + 2]? = some ⟨.ty 74, 4, em.map Tr.c⟩ ∧ em.Perm (ins ++ thb.take i) ∧ (ins = [] ∨ ins = [nt]) ∧ (d = false → ins = []) ∧ (bD_ x.Held j n s = true → d = true) ∧ em.map Tr.d ++ (cn_ j n s (x.Held.drop i) d).map ac_.cells = (d5_ x.Held j n s).map ac_.cells ∧ em.length ≤ i + 1 ∧ m = x.Held.length - i ∧ i ≤ x.Held.length) x.Held.length ?_ ?_
 ·refine ⟨0, [], [], d0, rfl, rfl, rfl, by simp [upd], by simp [upd], by simp [upd], by simp [upd], by simp [upd], by simp [upd], by simp [upd], Nat.le_refl _, fun _ _ _ => rfl, x2, List.Perm.refl _, .inl rfl, fun _ => rfl, fun z => by rw [← hd0, z], ?_, by simp, rfl, Nat.zero_le _⟩
  rw [map_nil, nil_append, drop_zero, ← hd0, k3_ hl.sorted]
 rintro J hJ m t h ⟨i, em, ins, d, t1, t2, t3, t4, t8, t9, t10, t11, t12, t13, hle, hkp, oG, hperm, hins, hins2, hkd, hdat, hlenem, rfl, hi'⟩
 have o0 := (hkp H.length (by omega) (by omega)).trans x0
 have o1 := (hkp (H.length + 1) (by omega) (by omega)).trans x1
 have oF := (hkp H1.length (by omega) (by omega)).trans xF
 have hrh := (hkp lh (by omega) (by omega)).trans xr
 have mh0 : aK_ H h := ⟨by omega, fun y hy => (hkp y (by omega) (by omega)).trans (mHx.kept y hy)⟩
 by_cases hlt : i < x.Held.length
 ·have him : i < mh := by omega
  have hit : i < th.length := by omega
  have hitb : i < thb.length := by omega
  obtain ⟨hbd, c4, cq, cf, hc0, ho4, hc4, hbc⟩ := b6 i hlt hit hitb
  have hcell := hc0
  simp only [AV.cell, Value.oneCell'] at hcell
  have hcnt := hl.held _ (getElem_mem hlt)
  simp only [dn_, bh_, Bool.and_eq_true, decide_eq_true_eq] at hcnt
  have hless : ∀ r : Row, aa_ Tryz.prog 71 [.val (.string n), sa, .val (.string x.Held[i].Name), c4] (h ++ [r]) (.val (.bool (c0_ n.data.toList (bss s) x.Held[i].Name.data.toList (bss x.Held[i].Subs)))) := fun r => aa_.anyR rfl (fun h => ft_ n s x.Held[i].Name x.Held[i].Subs (cg_ ht).2.1 (ac_.sz_Subs (bV_ (ab_.sz_Held hl.big) (getElem_mem hlt))) h) (aO_.cons (bq_.same rfl) (aO_.cons (hsa _ (mh0.add _)) (aO_.cons (bq_.same rfl) (aO_.cons (a7_.any (.inr ⟨_, _, ho4.keep fun y hy => (mh0.add [r]).kept y (ho4.lt y hy)⟩)) aO_.nil))))
  rcases q9_ hl j n s with ⟨k1, k2⟩ | ⟨k1, k2⟩
  ·have hb0 := pm_ k1 _ (getElem_mem hlt)
   rw [hb0] at hbc hbd
   rw [k2] at t11
   have hne : ((i : Int) = -1) = False := eq_false (by omega)
   have hkk := pN_ j n s x.Held[i]
   cases d with
   | true =>
    have hstep : (!true && aR_ ⟨j, 0, n, s⟩ x.Held[i]) = false := rfl
    simp (disch := (first | omega | (simp only [ls_, la_, lc_, ln_]; first | done | omega))) only [ag_, aG_, bw_, go_sem, reduceEqDiff, Nat.reduceAdd, reduceLeDiff, Int.reduceNeg, ↓reduceIte, hne, t4, t9, t11, t12, t13, o0, hrh, oG, him, hc4, hcell, aU_, Int.zero_add, Nat.zero_add, Nat.sub_zero]
    repeat (refine And.intro (by first | omega | (exact strs_cellv _) | assumption | (simp; done)) ?_)
    refine ⟨x.Held.length - (i + 1), by omega, hJ _ _ _ ⟨i + 1, em ++ [thb[i]], ins, true, by simp [upd, t1], by simp [upd, t2], by simp [upd, t3], by simp [upd, t4], by simp [upd, t8], by simp [upd], by simp [upd, t10], by simp [upd, t11, k2], by simp [upd, t12], by simp [upd], by simp; omega, fun y q1 q2 => ?_, ?_, by
     rw [take_succ_eq_append_getElem (by omega), ← append_assoc]
     exact List.Perm.append_right _ hperm, hins, (fun q => by cases q), (fun _ => rfl), ?_, by simp; omega, rfl, by omega⟩⟩
    ·(repeat (first | rw [ad_ (by omega)] | rw [ag_ (by first | omega | (simp only [ls_, la_, lc_, ln_]; omega))])); exact hkp y q1 q2
    ·rw [aD_ (by simp; omega)]; simp only [map_append, map_cons, map_nil, hbc]
    ·rw [← hdat, drop_eq_getElem_cons hlt]
     simp only [cn_, hstep, map_append, map_cons, map_nil, append_assoc, cons_append, nil_append, hbd, hb0, Bool.false_eq_true, if_false]
   | false =>
    have hem0 : em.length = i := by
     have := hperm.length_eq
     rw [hins2 rfl, nil_append, length_take] at this
     omega
    by_cases c1 : j < x.Held[i].Job
    ·have hstep : (!false && aR_ ⟨j, 0, n, s⟩ x.Held[i]) = true := by rw [hkk, decide_eq_true c1]; rfl
     have c1' : (j < x.Held[i].Job) = True := eq_true c1
     simp (disch := (first | omega | (simp only [ls_, la_, lc_, ln_]; first | done | omega))) only [ad_, aD_, ag_, aG_, bw_, ls_, go_sem, reduceEqDiff, Nat.reduceAdd, reduceLeDiff, Int.reduceNeg, ↓reduceIte, hne, c1', t1, t4, t9, t10, t11, t12, t13, o0, hrh, oF, oG, him, hc4, hcell, aU_, Int.zero_add, Nat.zero_add, Nat.sub_zero]
     repeat (refine And.intro (by first | omega | (exact strs_cellv _) | assumption | (simp; done)) ?_)
     refine ⟨x.Held.length - (i + 1), by omega, hJ _ _ _ ⟨i + 1, em ++ [nt] ++ [thb[i]], [nt], true, by simp [upd, t1], by simp [upd, t2], by simp [upd, t3], by simp [upd, t4], by simp [upd, t8], by simp [upd], by simp [upd, t10], by simp [upd, t11, k2], by simp [upd], by simp [upd], by simp; omega, fun y q1 q2 => ?_, ?_, by
     rw [take_succ_eq_append_getElem (by omega)]
     have e0 : ins = [] := hins2 rfl
     rw [e0, nil_append] at hperm
     have : (em ++ [nt] ++ [thb[i]]).Perm ([nt] ++ em ++ [thb[i]]) := List.Perm.append_right _ perm_append_comm
     refine this.trans ?_
     rw [append_assoc]
     exact List.Perm.append_left _ (List.Perm.append_right _ hperm), .inr rfl, (fun q => by cases q), (fun _ => rfl), ?_, by simp; omega, rfl, by omega⟩⟩
     ·(repeat (first | rw [ad_ (by omega)] | rw [ag_ (by first | omega | (simp only [ls_, la_, lc_, ln_]; omega))])); exact hkp y q1 q2
     ·rw [aD_ (by simp; omega)]; simp only [map_append, map_cons, map_nil, append_assoc, cons_append, nil_append, hbc, hntc]
     ·rw [← hdat, drop_eq_getElem_cons hlt]
      simp only [cn_, hstep, map_append, map_cons, map_nil, append_assoc, cons_append, nil_append, hbd, hntd, hb0, if_true]
    have c1' : (j < x.Held[i].Job) = False := eq_false c1
    by_cases c2 : x.Held[i].Job = j
    ·have c2' : (x.Held[i].Job = j) = True := eq_true c2
     simp (disch := (first | omega | (simp only [ls_, la_, lc_, ln_]; first | done | omega))) only [aG_, go_sem, reduceEqDiff, Nat.reduceAdd, Int.reduceNeg, ↓reduceIte, hne, c1', c2', t1, t2, t3, t4, t11, t12, t13, o0, hrh, him, hc4, hcell, Int.zero_add, Nat.zero_add, Nat.sub_zero]
     refine aa_.call (hless _) ?_
     cases c3 : c0_ n.data.toList (bss s) x.Held[i].Name.data.toList (bss x.Held[i].Subs)
     ·have hstep : (!false && aR_ ⟨j, 0, n, s⟩ x.Held[i]) = false := by rw [hkk, decide_eq_false c1, c3]; simp
      simp (disch := (first | omega | (simp only [ls_, la_, lc_, ln_]; first | done | omega))) only [ag_, aG_, bw_, go_sem, reduceEqDiff, Nat.reduceAdd, reduceLeDiff, Int.reduceNeg, ↓reduceIte, t9, t13, oG, hcell, aU_, Nat.zero_add]
      repeat (refine And.intro (by first | omega | (exact strs_cellv _) | assumption | (simp; done)) ?_)
      refine ⟨x.Held.length - (i + 1), by omega, hJ _ _ _ ⟨i + 1, em ++ [thb[i]], ins, false, by simp [upd, t1], by simp [upd, t2], by simp [upd, t3], by simp [upd, t4], by simp [upd, t8], by simp [upd], by simp [upd, t10], by simp [upd, t11, k2], by simp [upd, t12], by simp [upd], by simp; omega, fun y q1 q2 => ?_, ?_, by
     rw [take_succ_eq_append_getElem (by omega), ← append_assoc]
     exact List.Perm.append_right _ hperm, hins, hins2, hkd, ?_, by simp; omega, rfl, by omega⟩⟩
      ·(repeat (first | rw [ad_ (by omega)] | rw [ag_ (by first | omega | (simp only [ls_, la_, lc_, ln_]; omega))])); exact hkp y q1 q2
      ·rw [aD_ (by simp; omega)]; simp only [map_append, map_cons, map_nil, hbc]
      ·rw [← hdat, drop_eq_getElem_cons hlt]
       simp only [cn_, hstep, map_append, map_cons, map_nil, append_assoc, cons_append, nil_append, hbd, hb0, Bool.false_eq_true, if_false]
     ·have hstep : (!false && aR_ ⟨j, 0, n, s⟩ x.Held[i]) = true := by rw [hkk, decide_eq_true c2, c3]; simp
      simp (disch := (first | omega | (simp only [ls_, la_, lc_, ln_]; first | done | omega))) only [ad_, aD_, ag_, aG_, bw_, ls_, go_sem, reduceEqDiff, Nat.reduceAdd, reduceLeDiff, Int.reduceNeg, ↓reduceIte, t9, t10, t13, oF, oG, hcell, aU_, Nat.zero_add]
      repeat (refine And.intro (by first | omega | (exact strs_cellv _) | assumption | (simp; done)) ?_)
      refine ⟨x.Held.length - (i + 1), by omega, hJ _ _ _ ⟨i + 1, em ++ [nt] ++ [thb[i]], [nt], true, by simp [upd, t1], by simp [upd, t2], by simp [upd, t3], by simp [upd, t4], by simp [upd, t8], by simp [upd], by simp [upd, t10], by simp [upd, t11, k2], by simp [upd], by simp [upd], by simp; omega, fun y q1 q2 => ?_, ?_, by
     rw [take_succ_eq_append_getElem (by omega)]
     have e0 : ins = [] := hins2 rfl
     rw [e0, nil_append] at hperm
     have : (em ++ [nt] ++ [thb[i]]).Perm ([nt] ++ em ++ [thb[i]]) := List.Perm.append_right _ perm_append_comm
     refine this.trans ?_
     rw [append_assoc]
     exact List.Perm.append_left _ (List.Perm.append_right _ hperm), .inr rfl, (fun q => by cases q), (fun _ => rfl), ?_, by simp; omega, rfl, by omega⟩⟩
      ·(repeat (first | rw [ad_ (by omega)] | rw [ag_ (by first | omega | (simp only [ls_, la_, lc_, ln_]; omega))])); exact hkp y q1 q2
      ·rw [aD_ (by simp; omega)]; simp only [map_append, map_cons, map_nil, append_assoc, cons_append, nil_append, hbc, hntc]
      ·rw [← hdat, drop_eq_getElem_cons hlt]
       simp only [cn_, hstep, map_append, map_cons, map_nil, append_assoc, cons_append, nil_append, hbd, hntd, hb0, if_true]
    ·have c2' : (x.Held[i].Job = j) = False := eq_false c2
     have hstep : (!false && aR_ ⟨j, 0, n, s⟩ x.Held[i]) = false := by rw [hkk, decide_eq_false c1, decide_eq_false c2]; rfl
     simp (disch := (first | omega | (simp only [ls_, la_, lc_, ln_]; first | done | omega))) only [ag_, aG_, bw_, go_sem, reduceEqDiff, Nat.reduceAdd, reduceLeDiff, Int.reduceNeg, ↓reduceIte, hne, c1', c2', t1, t4, t9, t11, t12, t13, o0, hrh, oG, him, hc4, hcell, aU_, Int.zero_add, Nat.zero_add, Nat.sub_zero]
     repeat (refine And.intro (by first | omega | (exact strs_cellv _) | assumption | (simp; done)) ?_)
     refine ⟨x.Held.length - (i + 1), by omega, hJ _ _ _ ⟨i + 1, em ++ [thb[i]], ins, false, by simp [upd, t1], by simp [upd, t2], by simp [upd, t3], by simp [upd, t4], by simp [upd, t8], by simp [upd], by simp [upd, t10], by simp [upd, t11, k2], by simp [upd, t12], by simp [upd], by simp; omega, fun y q1 q2 => ?_, ?_, by
     rw [take_succ_eq_append_getElem (by omega), ← append_assoc]
     exact List.Perm.append_right _ hperm, hins, hins2, hkd, ?_, by simp; omega, rfl, by omega⟩⟩
     ·(repeat (first | rw [ad_ (by omega)] | rw [ag_ (by first | omega | (simp only [ls_, la_, lc_, ln_]; omega))])); exact hkp y q1 q2
     ·rw [aD_ (by simp; omega)]; simp only [map_append, map_cons, map_nil, hbc]
     ·rw [← hdat, drop_eq_getElem_cons hlt]
      simp only [cn_, hstep, map_append, map_cons, map_nil, append_assoc, cons_append, nil_append, hbd, hb0, Bool.false_eq_true, if_false]
  ·have hdt : d = true := hkd k1
   subst hdt
   rw [k2] at t11
   have hstep : (!true && aR_ ⟨j, 0, n, s⟩ x.Held[i]) = false := rfl
   by_cases c0 : i = bg_ x.Held j n s
   ·have hne : ((i : Int) = (bg_ x.Held j n s : Int)) = True := eq_true (by omega)
    have hb1 : (cT_ j n s x.Held[i]).Count = x.Held[i].Count + 1 := by
     have : cw_ j n s x.Held[i] = true := by
      obtain ⟨hm0, hk0⟩ := gG_ hl.sorted k1
      subst c0; exact hk0
     rw [cT_, if_pos this]; rfl
    rw [hb1] at hbc
    simp (disch := (first | omega | (simp only [ls_, la_, lc_, ln_]; first | done | omega))) only [ag_, aG_, bw_, go_sem, reduceEqDiff, Nat.reduceAdd, reduceLeDiff, ↓reduceIte, hne, t4, t9, t11, t12, t13, o0, hrh, oG, him, hc4, hcell, aU_, Int.zero_add, Nat.zero_add, Nat.sub_zero]
    repeat (refine And.intro (by first | omega | (exact strs_cellv _) | assumption | (simp; done)) ?_)
    refine ⟨x.Held.length - (i + 1), by omega, hJ _ _ _ ⟨i + 1, em ++ [thb[i]], ins, true, by simp [upd, t1], by simp [upd, t2], by simp [upd, t3], by simp [upd, t4], by simp [upd, t8], by simp [upd], by simp [upd, t10], by simp [upd, t11, k2], by simp [upd, t12], by simp [upd], by simp; omega, fun y q1 q2 => ?_, ?_, by
     rw [take_succ_eq_append_getElem (by omega), ← append_assoc]
     exact List.Perm.append_right _ hperm, hins, (fun q => by cases q), (fun _ => rfl), ?_, by simp; omega, rfl, by omega⟩⟩
    ·(repeat (first | rw [ad_ (by omega)] | rw [ag_ (by first | omega | (simp only [ls_, la_, lc_, ln_]; omega))])); exact hkp y q1 q2
    ·rw [aD_ (by simp; omega)]; simp only [map_append, map_cons, map_nil, hbc]
    ·rw [← hdat, drop_eq_getElem_cons hlt]
     simp only [cn_, hstep, map_append, map_cons, map_nil, append_assoc, cons_append, nil_append, hbd, Bool.false_eq_true, if_false]
   ·have hne : ((i : Int) = (bg_ x.Held j n s : Int)) = False := eq_false (by omega)
    have hb1 : cT_ j n s x.Held[i] = x.Held[i] := by
     rw [cT_, if_neg (fun z => c0 (gT_ hl.sorted hlt z))]
    rw [hb1] at hbc hbd
    simp (disch := (first | omega | (simp only [ls_, la_, lc_, ln_]; first | done | omega))) only [ag_, aG_, bw_, go_sem, reduceEqDiff, Nat.reduceAdd, reduceLeDiff, ↓reduceIte, hne, t4, t9, t11, t12, t13, o0, hrh, oG, him, hc4, hcell, aU_, Int.zero_add, Nat.zero_add, Nat.sub_zero]
    repeat (refine And.intro (by first | omega | (exact strs_cellv _) | assumption | (simp; done)) ?_)
    refine ⟨x.Held.length - (i + 1), by omega, hJ _ _ _ ⟨i + 1, em ++ [thb[i]], ins, true, by simp [upd, t1], by simp [upd, t2], by simp [upd, t3], by simp [upd, t4], by simp [upd, t8], by simp [upd], by simp [upd, t10], by simp [upd, t11, k2], by simp [upd, t12], by simp [upd], by simp; omega, fun y q1 q2 => ?_, ?_, by
     rw [take_succ_eq_append_getElem (by omega), ← append_assoc]
     exact List.Perm.append_right _ hperm, hins, (fun q => by cases q), (fun _ => rfl), ?_, by simp; omega, rfl, by omega⟩⟩
    ·(repeat (first | rw [ad_ (by omega)] | rw [ag_ (by first | omega | (simp only [ls_, la_, lc_, ln_]; omega))])); exact hkp y q1 q2
    ·rw [aD_ (by simp; omega)]; simp only [map_append, map_cons, map_nil, hbc]
    ·rw [← hdat, drop_eq_getElem_cons hlt]
     simp only [cn_, hstep, map_append, map_cons, map_nil, append_assoc, cons_append, nil_append, hbd, hb1, Bool.false_eq_true, if_false]
 ·have hi2 : i = x.Held.length := by omega
  subst hi2
  rw [drop_length] at hdat
  have hownnt : ∀ h' : List Row, (∀ y, y < H1.length → H.length + 3 ≤ y → h'[y]? = H1[y]?) → H1.length ≤ h'.length → ∃ q, ∀ t ∈ [nt], au_ (Own h' q) t.c t.d t.f := fun h' q1 q2 => ⟨nq, fun t ht => by
   rw [mem_singleton.1 ht, hnt]
   exact au_.mono (fun a r g hg ho => ho.keep fun y hy => q1 y (nn3 y (hg y hy)).2 (by have := nn3 y (hg y hy); omega)) nn1⟩
  have hwide : ∀ t ∈ [nt], t.c.length = 4 ∧ t.c.all AV.cell = true := fun t ht => by rw [mem_singleton.1 ht, hntc]; exact ⟨rfl, rfl⟩
  have hnf : (([nt] : List Tr).map Tr.f).flatten = nf := by simp [hntf]
  have hH1 : ∀ y, y < H1.length → y ≠ H.length + 2 → h[y]? = H1[y]? := fun y q1 q2 => (hkp y (by omega) q2).trans (hx y q1)
  have hthm : thb.take x.Held.length = thb.take mh := by rw [hmh]
  rw [hthm] at hperm
  have hfin : ((x.Held.length : Int) < (mh : Int)) = False := eq_false (by omega)
  have hfin2 : th.length = mh → ((x.Held.length : Int) < (th.length : Int)) = False := fun e => eq_false (by omega)
  cases d with
  | true =>
   have hdat2 : em.map Tr.d = (d5_ x.Held j n s).map ac_.cells := by rw [← hdat]; simp [cn_]
   simp (disch := (first | omega | (simp only [ls_, la_, lc_, ln_]; first | done | omega))) only [ad_, aD_, go_sem, reduceEqDiff, Nat.reduceAdd, reduceLeDiff, ↓reduceIte, t4, t8, t9, t12, t13, o0, o1, hrh, hfin, cb, Nat.sub_zero, c2_]
   exact hk2 _ em ins ⟨by simp; omega, fun y hy => by rw [ad_ (by omega), ad_ (by omega)]; exact mh0.kept y hy⟩ (by rw [ad_ (by omega), ad_ (by omega)]; exact oG) hperm (fun t ht => by
    rcases hins with e | e
    ·rw [e] at ht; cases ht
    ·rw [e] at ht; exact hwide t ht) (by
    rcases hins with e | e
    ·exact ⟨0, fun t ht => by rw [e] at ht; cases ht⟩
    ·rw [e]; exact hownnt _ (fun y q1 q2 => by rw [ad_ (by omega), ad_ (by omega)]; exact hH1 y q1 (by omega)) (by simp; omega)) (by
    rcases hins with e | e
    ·rw [e]; exact nodup_nil
    ·rw [e, hnf]; exact nn2) (fun y hy => by
    rcases hins with e | e
    ·rw [e] at hy; cases hy
    ·rw [e, hnf] at hy; have := nn3 y hy; simp; omega) hdat2
  | false =>
   have hdat2 : (em ++ [nt]).map Tr.d = (d5_ x.Held j n s).map ac_.cells := by rw [← hdat]; simp [cn_, hntd]
   simp (disch := (first | omega | (simp only [ls_, la_, lc_, ln_]; first | done | omega))) only [ad_, aD_, ag_, aG_, go_sem, reduceEqDiff, Nat.reduceAdd, reduceLeDiff, ↓reduceIte, t4, t8, t9, t10, t12, t13, o0, o1, oF, oG, hrh, hfin, cb, Nat.sub_zero, c2_]
   refine ⟨by omega, by omega, ?_⟩
   have hel : em.length + 1 = (em ++ [nt]).length := by simp
   rw [hins2 rfl, nil_append] at hperm
   rw [hel]
   exact hk2 _ (em ++ [nt]) [nt] ⟨by simp; omega, fun y hy => by rw [ad_ (by omega), ad_ (by omega), ad_ (by omega), ag_ (by omega)]; exact mh0.kept y hy⟩ (by rw [ad_ (by omega), ad_ (by omega), aD_ (by simp; omega), map_append, map_cons, map_nil, hntc]) ((List.Perm.append_right _ hperm).trans perm_append_comm) hwide (hownnt _ (fun y q1 q2 => by rw [ad_ (by omega), ad_ (by omega), ad_ (by omega), ag_ (by omega)]; exact hH1 y q1 (by omega)) (by simp; omega)) (by rw [hnf]; exact nn2) (fun y hy => by rw [hnf] at hy; have := nn3 y hy; simp; omega) hdat2
theorem uf_ {k l n sz : Nat} {H : List Row} {ds : List (List AV)} {f : List Nat} (h : Own H k (.own l n) (.list 0 sz ds) f) : ∃ row, H[l]? = some row ∧ row.es.length = n ∧ n = ds.length := by
 cases k with
 | zero => exact h.elim
 | succ k =>
  obtain ⟨row, es, f, h1, h2, h3, h4, _⟩ := h
  simp only [AV.list.injEq, true_and] at h4
  refine ⟨row, h1, h2, ?_⟩
  obtain ⟨ts, e1, e2, _, _⟩ := a0_.trs h3
  rw [h4.2, ← e2, length_map, ← h2, ← e1, length_map]
theorem pV_ {lo : Nat} {H : List Row} {x : ab_} {a b : AV} {F : List Nat} (k : KV lo H x a b F) (hl : bP_ x) (j : Int) {n : ByteArray} {s : List ByteArray} {sa : AV} (hs : s.length ≤ 1048576) (hsa : bq_ H sa (.list 0 1 (s.map ax_))) {K : AV → List Row → Prop}
 (hk : ∀ H' l row, aK_ H H' → H'[l]? = some row → row.es.length = (de_ x j n s).length → K (.own l (de_ x j n s).length) H') : callSem Tryz.prog 74 [.agg [a, b], .val (.int .i64 j), .val (.string n), sa] H K := by
 refine jz_ (iE_ x j n s hl.big hs) (aO_.cons k.arg (aO_.cons (bq_.same rfl) (aO_.cons (bq_.same rfl) (aO_.cons hsa aO_.nil)))) (fun av H' m F q => ?_)
 obtain ⟨k', b', ⟨l, c, rfl⟩, rfl⟩ := q
 obtain ⟨q, fs, h1, _, _⟩ := F.tree
 have h2 : Own H' q (.own (l + k') c) (.list 0 1 (av_ (de_ x j n s))) fs := h1
 obtain ⟨row, e1, e2, e3⟩ := uf_ h2
 have e4 : c = (de_ x j n s).length := by rw [e3]; simp [av_]
 subst e4
 exact hk H' _ row m e1 e2
theorem rX_ {lo : Nat} {H : List Row} {x : ab_} {a b : AV} {F : List Nat} (k : KV lo H x a b F) (hl : bP_ x) (j : Int) {n : ByteArray} {s : List ByteArray} {sa : AV} (hsa : bq_ H sa (.list 0 1 (s.map ax_))) :
 aa_ Tryz.prog 91 [.agg [a, b], .val (.int .i64 j), .val (.string n), sa] H (.val (.bool (dv_ x.Held j n s))) :=
 aa_.anyR rfl (fun h => lw_ x hl j n s h) (aO_.cons k.arg (aO_.cons (bq_.same rfl) (aO_.cons (bq_.same rfl) (aO_.cons hsa aO_.nil))))
theorem q7_ {α : Type} (p : α → Bool) (l : List α) (i : Nat) (hi : i < l.length) (h1 : p l[i] = true) (h2 : ∀ (k : Nat) (hk : k < i), p l[k] = false) : aN_ p l 0 = ((0 + i : Nat) : Int) := by
 rcases dZ_ p l 0 with ⟨_, h⟩ | ⟨i', hi', e, q1, q2⟩
 ·rw [h _ (getElem_mem hi)] at h1; cases h1
 ·rw [e]
  rcases Nat.lt_trichotomy i' i with z | z | z
  ·rw [h2 i' z] at q1; cases q1
  ·rw [z]
  ·rw [q2 i z] at h1; cases h1
theorem ry_ {α : Type} (p : α → Bool) (l : List α) (h : ∀ (k : Nat) (hk : k < l.length), p l[k] = false) : aN_ p l 0 = -1 := by
 rcases dZ_ p l 0 with ⟨e, _⟩ | ⟨i', hi', _, q1, _⟩
 ·exact e
 ·rw [h i' hi'] at q1; cases q1
def c56 : LC :=
 .q [.o [.bx 1 32 0, .s 2 (.alloc 32 z0z), .nl 3], .o [.s 8 (.buildSlice 2 1 (.int .i64 0) 0 []), .m 4 8], .q [.o [.ki 5 0], .block 0 (.loop (.q [.q [.o [.m 9 5, .fa 10 1 1, .ln 11 10, .ll 12 11, .bb 13 .lss false 9 12],
 .k 13 .skip (.exit 0)], .block 1 (.q [.o [.fa 16 1 1, .ln 17 16, .m 18 5, .ia 19 4 17 18, .ld 20 4 19, .s 6 (.alloc 64 (.agg #[.int .i64 0, .int .i64 0, .string ⟨#[]⟩, .slice none 0 0])), .st 4 6 20], .q [.o [.ld 21 2 1,
 .fa 22 0 6, .ln 23 22, .fa 24 2 6, .ln 25 24, .fa 26 3 6, .ln 27 26, .s 28 (.call 74 [.tmp 21, .tmp 23, .tmp 25, .tmp 27]), .ll 29 28, .bk 30 .gtr false 29 0], .k 30 (.exit 1) .skip], .o [.ld 31 2 1, .fa 32 0 6, .ln 33
 32, .fa 34 2 6, .ln 35 34, .fa 36 3 6, .ln 37 36, .s 38 (.call 91 [.tmp 31, .tmp 33, .tmp 35, .tmp 37]), .m 7 38], .o [.ld 39 2 1, .m 40 5, .c2 41 92 39 40, .st 2 1 41], .q [.o [.m 42 7], .k 42 (.o [.ld 43 2 1, .fa 44 0
 6, .ln 45 44, .fa 46 2 6, .ln 47 46, .fa 48 3 6, .ln 49 48, .s 50 (.call 93 [.tmp 43, .tmp 45, .tmp 47, .tmp 49]), .st 2 1 50]) .skip], .o [.m 51 4, .fa 52 0 6, .ln 53 52, .s 54 (.buildSlice 2 1 (.int .i64 0) 1 [(0, .tmp
 53)]), .ap 55 2 1 8 51 54, .m 4 55], .o [.s 5 (.mov (.const (.int .i64 (-1))))]]), .o [.m 14 5, .bk 15 .add false 14 1, .m 5 15]]))], .o [.ld 56 2 1, .m 57 4, .st 2 2 56, .m 3 57], .ret]
def u0_ : LF := ⟨1, 58, c56, [.cell 2 (some 2), .tmp 3]⟩
theorem yq_ : aA_ Tryz.prog Tryz.f56 u0_ := ak_
theorem j5_ {lo : Nat} {H : List Row} {x : ab_} {a : AV} {lb nb : Nat} {F : List Nat} (k : KV lo H x a (.own lb nb) F) (hl : bP_ x) {K : AV → List Row → Prop}
 (hk : ∀ H' a' b' F' J, aK_ H H' → KV lo H' (cd_ x).1 a' b' F' → (∀ y ∈ F', y ∈ F ∨ H.length ≤ y) → H.length ≤ J → J ∉ F' → H'[J]? = some ⟨.ty 2, 1, av_ (cd_ x).2⟩ → K (.tup [.agg [a', b'], .own J (cd_ x).2.length]) H') : callSem Tryz.prog 56 [.agg [a, .own lb nb]] H K := by
 refine aS_ mixed Tryz.func56 yq_ (bs_ rfl ?_)
 have hlow := k.low
 have ca := k.cells.1
 simp only [AV.cell, Value.oneCell'] at ca
 simp (disch := (first | omega | (simp only [ls_, la_, lc_, ln_]; first | done | omega))) only [go_sem, Nat.reduceAdd, Int.reduceNeg, ↓reduceIte, u0_, c56, ca]
 refine aE_ (fun m t h => ∃ (i : Nat) (y : ab_) (out : List Int) (ac : AV) (lc nc : Nat) (F' : List Nat), t 1 = .ptr H.length 1 0 0 ∧ t 2 = .ptr (H.length + 1) 1 0 0 ∧ t 4 = .own (H.length + 2) out.length ∧ t 5 = .val (.int .i64 i) ∧ aK_ H h ∧ h[H.length]? = some ⟨.ty 32, 2, [[ac, .own lc nc]]⟩ ∧
  h[H.length + 1]? = some ⟨.ty 32, 2, [[.val (.slice none 0 0), .val (.slice none 0 0)]]⟩ ∧ h[H.length + 2]? = some ⟨.ty 2, 1, av_ out⟩ ∧ H.length + 2 < h.length ∧ KV lo h y ac (.own lc nc) F' ∧ bP_ y ∧ (∀ z ∈ F', z ∈ F ∨ H.length + 3 ≤ z) ∧ (∀ (q : Nat) (hq : q < y.Asks.length), q < i → dJ_ y y.Asks[q] = false) ∧ i ≤ y.Asks.length ∧
  out.length + y.Asks.length ≤ 4 ∧ m = y.Asks.length * 8 + (y.Asks.length - i) ∧ cd_ x = ((cP_ y.Asks.length y).1, out ++ (cP_ y.Asks.length y).2)) (x.Asks.length * 8 + x.Asks.length) ?_ ?_
 ·exact ⟨0, x, [], a, lb, nb, F, rfl, rfl, rfl, rfl, aK_.app _ _, aG_ rfl, bw_ rfl, cA_ rfl, by simp, k.more (aK_.app _ _), hl, fun z q => .inl q, fun q hq z => absurd z (Nat.not_lt_zero q), Nat.zero_le _, by have := hl.alen; simp; omega, rfl, rfl⟩
 rintro J hJ m t h ⟨i, y, out, ac, lc, nc, F', t1, t2, t4, t5, hM, o0, o1, o2, hlen, hK, hI, hF', hno, hi', hout, rfl, hS⟩
 have cc := hK.cells.1
 have hcc := cc
 simp only [AV.cell, Value.oneCell'] at hcc
 have hKl := hK.low
 have n0 : ∀ z ∈ F', H.length + 3 ≤ z ∨ z < H.length := fun z hz => (hF' z hz).elim (fun q => .inr (hlow z q).2) .inl
 obtain ⟨lh, mh, th, la, ma, ta, kl, hFe⟩ := id hK
 have hr := kl.asks.row
 have hma := kl.ma_eq
 have hmt : ma = ta.length ∧ la = lc ∧ ta.length = nc := by
  rcases kl.hb with e | ⟨e, e2⟩
  ·cases e
  ·simp only [AV.own.injEq] at e; exact ⟨e2, e.1.symm, e.2.symm⟩
 obtain ⟨hm1, rfl, hm2⟩ := hmt
 subst hm2
 have hal := hI.alen
 by_cases hlt : i < y.Asks.length
 ·have hit : i < ta.length := by omega
  obtain ⟨_, _, hid⟩ := jT_ kl hlt
  obtain ⟨kk, htree⟩ := kl.asks.tree
  have ht2 := htree ta[i] (getElem_mem hit)
  rw [hid] at ht2
  obtain ⟨c4, e4, hc4, ho4⟩ := g4_ ht2
  have hgt := hI.asks _ (getElem_mem hlt)
  rw [Bool.and_eq_true] at hgt
  have hc4' := hc4
  simp only [AV.cell, Value.oneCell'] at hc4'
  have hsa : ∀ H', aK_ h H' → bq_ H' c4 (.list 0 1 (y.Asks[i].Subs.map ax_)) := fun H' m => a7_.any (.inr ⟨_, _, ho4.keep fun z hz => m.kept z (ho4.lt z hz)⟩)
  have hz := m8_ y y.Asks[i].Job y.Asks[i].Name y.Asks[i].Subs
  simp (disch := (first | omega | (simp only [ls_, la_, lc_, ln_]; first | done | omega))) only [ag_, aG_, go_sem, reduceEqDiff, Nat.reduceAdd, Int.reduceNeg, ↓reduceIte, t1, t5, o0, hr, hit, e4, hc4', Nat.zero_add]
  refine pV_ (hK.more (aK_.app _ _)) hI y.Asks[i].Job (cg_ hgt.2).2.2 (hsa _ (aK_.app _ _)) (fun H1 lz row m1 q1 q2 => ?_)
  have mh1 : aK_ h H1 := (aK_.app _ _).trans m1
  have l1 := m1.len
  simp only [la_, lc_, ln_] at l1
  have p0 := mh1.at o0
  have p1 := mh1.at o1
  have p2 := mh1.at o2
  have pA := m1.at (f0_ h _)
  by_cases hm : dJ_ y y.Asks[i] = true
  case neg =>
   have hm' : fc_ y y.Asks[i].Job y.Asks[i].Name y.Asks[i].Subs = false := by simpa [dJ_] using hm
   rw [hm'] at hz
   have hz' : (0 < ((de_ y y.Asks[i].Job y.Asks[i].Name y.Asks[i].Subs).length : Int)) = True := eq_true (by have := of_decide_eq_false hz; omega)
   simp (disch := (first | omega | (simp only [ls_, la_, lc_, ln_]; first | done | omega))) only [go_sem, reduceEqDiff, Int.reduceNeg, ↓reduceIte, t5, q1, q2, hz', aU_]
   exact ⟨y.Asks.length * 8 + (y.Asks.length - (i + 1)), by omega, hJ _ _ _ ⟨i + 1, y, out, ac, la, ta.length, F', by simp [upd, t1], by simp [upd, t2], by simp [upd, t4], by simp [upd], hM.trans mh1, p0, p1, p2, by omega, hK.more mh1, hI, hF', fun q hq z => by
    rcases Nat.lt_or_ge q i with w | w
    ·exact hno q hq w
    ·have : q = i := by omega
     subst this
     exact hm', by omega, hout, rfl, hS⟩⟩
  have hm' : fc_ y y.Asks[i].Job y.Asks[i].Name y.Asks[i].Subs = true := by simpa [dJ_] using hm
  rw [hm'] at hz
  have hz' : (0 < ((de_ y y.Asks[i].Job y.Asks[i].Name y.Asks[i].Subs).length : Int)) = False := eq_false (by have := of_decide_eq_true hz; omega)
  simp (disch := (first | omega | (simp only [ls_, la_, lc_, ln_]; first | done | omega))) only [go_sem, reduceEqDiff, Nat.reduceAdd, Int.reduceNeg, ↓reduceIte, t1, q1, q2, hz', p0, pA]
  refine aa_.call (rX_ (hK.more mh1) hI y.Asks[i].Job (hsa _ mh1)) ?_
  have hless := kd_ (getElem?_eq_getElem hlt)
  have hlenA : (bH_ y i y.Asks[i]).Asks.length + 1 = y.Asks.length := hless
  have hI3 : bP_ ⟨y.Held, y.Asks.eraseIdx i⟩ := hI.cut i
  cases qr : dv_ y.Held y.Asks[i].Job y.Asks[i].Name y.Asks[i].Subs
  all_goals
   simp (disch := (first | omega | (simp only [ls_, la_, lc_, ln_]; first | done | omega))) only [go_sem, reduceEqDiff, Nat.reduceAdd, Int.reduceNeg, ↓reduceIte, t1, t5, p0]
   refine jf_ (hK.more mh1) hI hlt (fun H2 l2 n2 F2 m2 K2 s2 => ?_)
   have mh2 : aK_ h H2 := mh1.trans m2
   have l2' := m2.len
   have x0 := m2.at p0
   have x1 := m2.at p1
   have x2 := m2.at p2
   have xA := m2.at pA
   have sF : ∀ z ∈ F2, (z ∈ F ∨ H.length + 3 ≤ z) := fun z hz => (s2 z hz).elim (hF' z) fun w => .inr (by omega)
   have sF' : ∀ z ∈ F2, z < H.length ∨ H.length + 3 ≤ z := fun z hz => (sF z hz).imp (fun w => (hlow z w).2) id
   simp (disch := (first | omega | (simp only [ls_, la_, lc_, ln_]; first | done | omega))) only [ad_, aD_, ag_, aG_, ls_, go_sem, reduceEqDiff, Nat.reduceAdd, reduceLeDiff, Int.reduceNeg, Int.reduceAdd, ↓reduceIte, t1, t4, x0, x2, xA, hcc]
  ·have hgx : bH_ y i y.Asks[i] = ⟨y.Held, y.Asks.eraseIdx i⟩ := by rw [bH_, if_neg (by rw [qr]; simp)]
   have K5 : KV lo H2 (bH_ y i y.Asks[i]) ac (.own l2 n2) F2 := by rw [hgx]; exact K2
   have s5 := sF
   have s5' := sF'
   have w0 := x0
   have w1 := x1
   have w2 := x2
   have wA := xA
   have k5 : ∀ z, z < H.length → H2[z]? = H[z]? := fun z hz => ((hM.trans mh2).kept z hz)
   try simp (disch := (first | omega | (simp only [ls_, la_, lc_, ln_]; first | done | omega))) only [ad_, aD_, ag_, aG_, bw_, cA_, jq_, ls_, go_sem, reduceEqDiff, Nat.reduceAdd, reduceLeDiff, reduceCtorEq, Int.reduceLT, Int.reduceLE, Int.reduceNeg, Int.reduceSub, Int.reduceAdd, Int.reduceToNat, ↓reduceIte, t1, t2, t4, t5, w0, w1, w2, wA, bz_, hcc, hc4', aU_]
   repeat (refine And.intro (by first | omega | (exact strs_cellv _) | assumption | (simp; done)) ?_)
   refine ⟨(bH_ y i y.Asks[i]).Asks.length * 8 + (bH_ y i y.Asks[i]).Asks.length, by omega, hJ _ _ _ ⟨0, bH_ y i y.Asks[i], out ++ [y.Asks[i].Job], ac, l2, n2, F2, by simp [upd, t1], by simp [upd, t2], by simp [upd], by simp [upd], ⟨by simp; omega, fun z hz => ?_⟩, by (repeat (first | rw [ad_ (by omega)] | rw [ag_ (by first | omega | (simp only [ls_]; omega))])); exact aD_ (by omega), by (repeat (first | rw [ad_ (by omega)] | rw [ag_ (by first | omega | (simp only [ls_]; omega))])); exact w1, ?_, by simp; omega, K5.keep (fun z hz => ?_) (by simp), fk_ hI (getElem?_eq_getElem hlt), s5, fun q hq z => absurd z (Nat.not_lt_zero q), Nat.zero_le _, by simp; omega, rfl, ?_⟩⟩
   ·(repeat (first | rw [ad_ (by omega)] | rw [ag_ (by first | omega | (simp only [ls_]; omega))])); exact k5 z hz
   ·rw [aD_ (by simp; omega)]
   ·have h6 := s5' z hz
    have h7 := (K5.low z hz).2
    (repeat (first | rw [ad_ (by omega)] | rw [ag_ (by first | omega | (simp only [ls_]; omega))]))
   ·rw [hS, ← hless, hu_ (q7_ _ _ _ hlt hm (fun q hq => hno q (by omega) hq)) hlt]
    simp
  ·have hgx : bH_ y i y.Asks[i] = ⟨d5_ y.Held y.Asks[i].Job y.Asks[i].Name y.Asks[i].Subs, y.Asks.eraseIdx i⟩ := by rw [bH_, if_pos qr]
   have K3 : KV lo (H2.set H.length ⟨.ty 32, 2, [[ac, .own l2 n2]]⟩) ⟨y.Held, y.Asks.eraseIdx i⟩ ac (.own l2 n2) F2 := K2.keep (fun z hz => ad_ (by have := sF' z hz; omega)) (by simp)
   refine kD_ K3 hI3 y.Asks[i].Job hgt.2 (fun H' m => ?_) (fun H4 a4 F4 m4 K4 s4 => ?_)
   ·refine a7_.any (.inr ⟨_, _, ho4.keep fun z hz => ?_⟩)
    have hzF : z ∈ F' := by rw [hFe]; exact mem_append_right _ (e1_ (getElem_mem hit) hz)
    have hzl := ho4.lt z hz
    have := n0 z hzF
    rw [m.kept z (by simp; omega), ad_ (by omega)]; exact mh2.kept z hzl
   have l4 := m4.len
   simp only [ls_] at l4
   rw [← hgx] at K4
   have K5 := K4
   have s5 : ∀ z ∈ F4, (z ∈ F ∨ H.length + 3 ≤ z) := fun z hz => (s4 z hz).elim (sF z) fun w => .inr (by simp at w; omega)
   have s5' : ∀ z ∈ F4, z < H.length ∨ H.length + 3 ≤ z := fun z hz => (s5 z hz).imp (fun w => (hlow z w).2) id
   have w0 := m4.at (aD_ (r := ⟨.ty 32, 2, [[ac, .own l2 n2]]⟩) (show H.length < H2.length by omega))
   have w1 := m4.at ((ad_ (show H.length ≠ H.length + 1 by omega)).trans x1)
   have w2 := m4.at ((ad_ (show H.length ≠ H.length + 2 by omega)).trans x2)
   have wA := m4.at ((ad_ (show H.length ≠ h.length by omega)).trans xA)
   have c4a := K4.cells.1
   simp only [AV.cell, Value.oneCell'] at c4a
   have k5 : ∀ z, z < H.length → H4[z]? = H[z]? := fun z hz => by rw [m4.kept z (by simp; omega), ad_ (by omega)]; exact (hM.trans mh2).kept z hz
   simp (disch := (first | omega | (simp only [ls_, la_, lc_, ln_]; first | done | omega))) only [ad_, ag_, aG_, ls_, go_sem, reduceEqDiff, Nat.reduceAdd, reduceLeDiff, Int.reduceNeg, Int.reduceAdd, ↓reduceIte, t1, t4, w0, w2, wA, bz_, c4a, aU_]
   repeat (refine And.intro (by first | omega | (exact strs_cellv _) | assumption | (simp; done)) ?_)
   refine ⟨(bH_ y i y.Asks[i]).Asks.length * 8 + (bH_ y i y.Asks[i]).Asks.length, by omega, hJ _ _ _ ⟨0, bH_ y i y.Asks[i], out ++ [y.Asks[i].Job], a4, l2, n2, F4, by simp [upd, t1], by simp [upd, t2], by simp [upd], by simp [upd], ⟨by simp; omega, fun z hz => ?_⟩, by (repeat (first | rw [ad_ (by omega)] | rw [ag_ (by first | omega | (simp only [ls_]; omega))])); exact aD_ (by omega), by (repeat (first | rw [ad_ (by omega)] | rw [ag_ (by first | omega | (simp only [ls_]; omega))])); exact w1, ?_, by simp; omega, K5.keep (fun z hz => ?_) (by simp), fk_ hI (getElem?_eq_getElem hlt), s5, fun q hq z => absurd z (Nat.not_lt_zero q), Nat.zero_le _, by simp; omega, rfl, ?_⟩⟩
   ·(repeat (first | rw [ad_ (by omega)] | rw [ag_ (by first | omega | (simp only [ls_]; omega))])); exact k5 z hz
   ·rw [aD_ (by simp; omega)]
   ·have h6 := s5' z hz
    have h7 := (K5.low z hz).2
    (repeat (first | rw [ad_ (by omega)] | rw [ag_ (by first | omega | (simp only [ls_]; omega))]))
   ·rw [hS, ← hless, hu_ (q7_ _ _ _ hlt hm (fun q hq => hno q (by omega) hq)) hlt]
    simp
 ·have hi2 : i = y.Asks.length := by omega
  subst hi2
  have hstop : aN_ (dJ_ y) y.Asks 0 = -1 := ry_ _ _ fun q hq => hno q hq hq
  rw [ka_ hstop, append_nil] at hS
  have e1 : (cd_ x).1 = y := by rw [hS]
  have e2 : (cd_ x).2 = out := by rw [hS]
  rw [e1, e2] at hk
  have hfin : ((y.Asks.length : Int) < (ta.length : Int)) = False := eq_false (by omega)
  simp (disch := (first | omega | (simp only [ls_, la_, lc_, ln_]; first | done | omega))) only [aD_, go_sem, reduceEqDiff, Nat.reduceAdd, Int.reduceNeg, ↓reduceIte, t1, t2, t4, t5, o0, o1, hr, hfin, hcc, pG_]
  exact hk _ _ _ F' _ ⟨by simp; omega, fun z hz => by (repeat (first | rw [ad_ (by omega)] | rw [ag_ (by first | omega | (simp only [ls_, la_, lc_, ln_]; omega))])); exact hM.kept z hz⟩ (hK.keep (fun z hz => ad_ (by have := n0 z hz; omega)) (by simp)) (fun z hz => (hF' z hz).imp id fun w => by omega) (by omega) (fun z => by have := n0 _ z; omega) (by (repeat (first | rw [ad_ (by omega)] | rw [ag_ (by first | omega | (simp only [ls_, la_, lc_, ln_]; omega))])); exact o2)
theorem bb_.pick {lo E sz l m l' : Nat} {H H' : List Row} {ts em : List Tr} (s : bb_ lo H E sz l m ts) (hsub : em.Sublist ts) (hrow : H'[l']? = some ⟨.ty E, sz, em.map Tr.c⟩) (hk : ∀ y ∈ aF_ l ts, y ≠ l → H'[y]? = H[y]?) (hl : H.length ≤ l') (hlen : H.length ≤ H'.length) : bb_ lo H' E sz l' em.length em ∧ ∀ y ∈ aF_ l' em, y ∈ aF_ l ts ∨ y = l' := by
 refine ⟨s.renew (new := []) hrow (Nat.le_refl _) (List.Perm.refl _) hsub (fun t ht => absurd ht not_mem_nil) ⟨0, fun t ht => absurd ht not_mem_nil⟩ nodup_nil (fun y hy => absurd hy not_mem_nil) (fun y hy => ?_) (.inr hl) hlen, fun y hy => ?_⟩
 ·exact hk y (mem_cons_of_mem _ hy) (fun e => (nodup_cons.1 s.one).1 (e ▸ hy))
 ·rcases mem_cons.1 hy with e | e
  ·exact .inr e
  ·exact .inl (mem_cons_of_mem _ ((eM_ (hsub.map Tr.f)).subset e))
theorem bb_.down {lo lo' E sz l m : Nat} {H : List Row} {ts : List Tr} (s : bb_ lo H E sz l m ts) (h : lo' ≤ lo) : bb_ lo' H E sz l m ts := ⟨s.row, s.le, s.wide, s.tree, s.one, fun x hx => by have := s.lows x hx; omega⟩
theorem KV.down {lo lo' : Nat} {H : List Row} {x : ab_} {a b : AV} {F : List Nat} (k : KV lo H x a b F) (h : lo' ≤ lo) : KV lo' H x a b F := by
 obtain ⟨lh, mh, th, la, ma, ta, k, e⟩ := k
 exact ⟨lh, mh, th, la, ma, ta, ⟨k.ha, k.hb, bb_.down k.held h, bb_.down k.asks h, k.hd, k.ad, k.apart⟩, e⟩
theorem fN_ {lo E l m : Nat} {H : List Row} {ts : List Tr} (s : bb_ lo H E 4 l m ts) (p : Tr → Bool) (G : Nat) (caps : List AV) (I : Nat → List Row → Prop) (Fr : Nat → Prop) (hm : m ≤ 1048576) (hc : b3_ Tryz.prog G = true) (hFf : ∀ x ∈ aF_ l ts, ¬ Fr x) (hI0 : I 0 H)
 (hp : ∀ (j : Nat) (hj : j < m) (hjt : j < ts.length) (H' : List Row), H.length ≤ H'.length → (∀ x, x < H.length → x ≠ l → ¬ Fr x → H'[x]? = H[x]?) → I j H' → ∀ K' : AV → List Row → Prop, (∀ H'', H'.length ≤ H''.length → (∀ x, x < H'.length → ¬ Fr x → H''[x]? = H'[x]?) → I (j + 1) H'' → K' (.val (.bool (p ts[j]))) H'') → callSem Tryz.prog G (.agg ts[j].c :: caps) H' K')
 {K : AV → List Row → Prop} (hk : ∀ (H' : List Row) (jj : Nat), H.length ≤ H'.length → (∀ x, x < H.length → ¬ Fr x → H'[x]? = H[x]?) → I jj H' → ((aN_ p (ts.take m) 0 = -1 ∧ jj = m) ∨ (aN_ p (ts.take m) 0 = ((jj : Int) - 1) ∧ 0 < jj ∧ jj ≤ m)) → K (.val (.int .i64 (aN_ p (ts.take m) 0))) H') :
 callSem Tryz.prog 98 [.sub l ts.length 0 m, .fn G [] caps] H K := by
 refine aS_ mixed Tryz.func98 qb_ (bs_ rfl ?_)
 have hr := s.row
 have hle := s.le
 have hFl : ¬ Fr l := hFf l mem_cons_self
 have hll := s.lt
 simp (disch := omega) only [qo_, c98, hr, Nat.sub_zero, go_sem, reduceCtorEq, Int.reduceNeg, ↓reduceIte]
 refine aE_ (fun n t h => ∃ k : Nat, t 0 = .sub l ts.length 0 m ∧ t 1 = .fn G [] caps ∧ t 7 = .val (.int .i64 m) ∧ t 8 = .val (.int .i64 k) ∧ H.length ≤ h.length ∧ (∀ x, x < H.length → ¬ Fr x → h[x]? = H[x]?) ∧ I k h ∧ n = m - k ∧ k ≤ m ∧ aN_ p (ts.take m) 0 = aN_ p ((ts.take m).drop k) k) m ⟨0, rfl, rfl, rfl, rfl, Nat.le_refl _, fun _ _ _ => rfl, hI0, rfl, Nat.zero_le _, rfl⟩ ?_
 rintro J hJ n t h ⟨k, t0, t1, t7, t8, hL, hM, hI, rfl, hk', hS⟩
 have hr : h[l]? = _ := (hM l hll hFl).trans hr
 by_cases hlt : k < m
 ·have hlt2 : k < ts.length := by omega
  have hlt3 : k < (ts.take m).length := by rw [length_take]; omega
  rw [db_ p _ k hlt3, getElem_take] at hS
  have hw := (s.wide ts[k] (getElem_mem hlt2)).1
  have htk : ts[k].c.take 4 = ts[k].c := take_of_length_le (by omega)
  simp (disch := omega) only [t0, t1, t7, t8, hr, hlt, hw, htk, hc, Int.zero_add, go_sem, reduceEqDiff, reduceCtorEq, Int.reduceNeg, ↓reduceIte]
  refine hp k hlt hlt2 h hL (fun x q1 _ q3 => hM x q1 q3) hI _ (fun H2 l2 m2 I2 => ?_)
  cases q : p ts[k]
  ·simp (disch := omega) only [t8, aU_, go_sem, reduceEqDiff, Int.reduceNeg, ↓reduceIte]
   exact ⟨m - (k + 1), by omega, hJ _ _ _ ⟨k + 1, by simp [upd, t0], by simp [upd, t1], by simp [upd, t7], by simp [upd], by omega, fun x q1 q3 => (m2 x (by omega) q3).trans (hM x q1 q3), I2, rfl, by omega, by rw [hS, q]; rfl⟩⟩
  ·simp (disch := omega) only [go_sem, reduceEqDiff, Int.reduceNeg, ↓reduceIte]
   have hS2 : aN_ p (ts.take m) 0 = (k : Int) := by rw [hS, q]; rfl
   rw [hS2] at hk
   exact hk H2 (k + 1) (by omega) (fun x q1 q3 => (m2 x (by omega) q3).trans (hM x q1 q3)) I2 (.inr ⟨by omega, by omega, by omega⟩)
 ·simp (disch := omega) only [t7, t8, hlt, go_sem, Int.reduceNeg, ↓reduceIte]
  have hkm : k = m := by omega
  subst hkm
  have hS2 : aN_ p (ts.take k) 0 = -1 := by rw [hS, b6_ _ _ _ (by rw [length_take]; omega)]
  rw [hS2] at hk
  exact hk h k hL hM hI (.inl ⟨rfl, rfl⟩)
theorem fH_ {lo l m : Nat} {H : List Row} {ts : List Tr} (s : bb_ lo H 64 4 l m ts) (p : Tr → Bool) (G : Nat) (caps : List AV) (hm : m ≤ 1048576) (hc : b3_ Tryz.prog G = true)
 (I : Nat → List Row → Prop) (Fr : Nat → Prop) (hFr : ∀ x, Fr x → x < H.length) (hFf : ∀ x ∈ aF_ l ts, ¬ Fr x) (hI0 : I 0 H) (hst : ∀ (j : Nat) (H' H'' : List Row), H'.length ≤ H''.length → (∀ x, x < H'.length → x ≠ l → H''[x]? = H'[x]?) → I j H' → I j H'')
 (hp : ∀ (j : Nat) (hj : j < m) (hjt : j < ts.length) (H' : List Row), H.length ≤ H'.length → (∀ x, x < H.length → x ≠ l → ¬ Fr x → H'[x]? = H[x]?) → I j H' → ∀ K' : AV → List Row → Prop, (∀ H'', H'.length ≤ H''.length → (∀ x, x < H'.length → ¬ Fr x → H''[x]? = H'[x]?) → I (j + 1) H'' → K' (.val (.bool (p ts[j]))) H'') → callSem Tryz.prog G (.agg ts[j].c :: caps) H' K') {K : AV → List Row → Prop}
 (hk : ∀ (H' : List Row) (m' : Nat) (ts' : List Tr), H.length ≤ H'.length → (∀ x, x < H.length → x ≠ l → ¬ Fr x → H'[x]? = H[x]?) → bb_ lo H' 64 4 l m' ts' → ts'.length = ts.length → (∀ x, x ∈ aF_ l ts' → x ∈ aF_ l ts) → ts'.take m' = (ts.take m).filter (fun t => !p t) → I m H' → K (.sub l ts'.length 0 m') H') :
 callSem Tryz.prog 107 [.sub l ts.length 0 m, .fn G [] caps] H K := by
 refine aS_ mixed Tryz.func107 xj_ (bs_ rfl ?_)
 have hr := s.row
 have hle := s.le
 have hll := s.lt
 simp (disch := omega) only [tY_, vQ_, go_sem, reduceEqDiff, reduceCtorEq, Int.reduceNeg, ↓reduceIte]
 refine fN_ s p G caps I Fr hm hc hFf hI0 hp (fun H0 jj l0 k0 hI1 hjj => ?_)
 have hFl : ¬ Fr l := hFf l mem_cons_self
 rcases dZ_ p (ts.take m) 0 with ⟨h1, h2⟩ | ⟨i0, hi0, h1, h2, h3⟩
 ·have hjm : jj = m := by rcases hjj with ⟨_, e⟩ | ⟨e, e2, _⟩ <;> omega
  subst hjm
  rw [h1]
  simp (disch := omega) only [go_sem, reduceCtorEq, Int.reduceNeg, ↓reduceIte]
  refine hk H0 jj ts l0 (fun x q _ q3 => k0 x q q3) (s.keep (fun x hx => k0 x (s.lows x hx).2 (hFf x hx)) l0) rfl (fun _ q => q) (filter_eq_self.2 fun a ha => by rw [h2 a ha]; rfl).symm hI1
 rw [length_take] at hi0
 rw [getElem_take] at h2
 have hneg : (((0 + i0 : Nat) : Int) = -1) = False := eq_false (by omega)
 have hji : jj = i0 + 1 := by rcases hjj with ⟨e, _⟩ | ⟨e, e2, _⟩ <;> omega
 subst hji
 rw [h1]
 simp (disch := omega) only [Nat.zero_add, aU_, go_sem, reduceEqDiff, reduceCtorEq, Int.reduceNeg, ↓reduceIte]
 have hkept0 : (ts.take (i0 + 1)).filter (fun t => !p t) = ts.take i0 := by
  rw [take_succ_eq_append_getElem (by omega), filter_append]
  have e1 : (ts.take i0).filter (fun t => !p t) = ts.take i0 := filter_eq_self.2 fun a ha => by
   obtain ⟨j, hj, rfl⟩ := mem_iff_getElem.1 ha
   rw [length_take] at hj
   have := h3 j (by omega)
   rw [getElem_take] at this
   rw [getElem_take, this]; rfl
  rw [e1]; simp [h2]
 refine aE_ (fun n t h => ∃ (j : Nat) (kept W : List Tr), t 0 = .sub l ts.length 0 m ∧ t 1 = .fn G [] caps ∧ t 5 = .val (.int .i64 kept.length) ∧ t 6 = .val (.int .i64 j) ∧ H.length ≤ h.length ∧ (∀ x, x < H.length → x ≠ l → ¬ Fr x → h[x]? = H[x]?) ∧ I j h ∧ h[l]? = some ⟨.ty 64, 4, W.map Tr.c⟩ ∧
  kept = (ts.take j).filter (fun t => !p t) ∧ W.length = ts.length ∧ W.take kept.length = kept ∧ W.drop kept.length = ts.drop kept.length ∧ kept.length ≤ j ∧ n = m - j ∧ j ≤ m) (m - (i0 + 1)) ⟨i0 + 1, ts.take i0, ts, rfl, rfl, by simp [upd]; omega, by simp [upd], l0, fun x q _ q3 => k0 x q q3, hI1, (k0 l hll hFl).trans hr, hkept0.symm, rfl, by rw [length_take, Nat.min_eq_left (by omega)], rfl, by rw [length_take]; omega, rfl, by omega⟩ ?_
 rintro J hJ n t h ⟨j, kept, W, t0, t1, t5, t6, hl, hkeep, hIj, hrow, hkp, hW, hW1, hW2, hkj, rfl, hj⟩
 have gl : l < h.length := by omega
 by_cases hlt : j < m
 ·have hlt2 : j < ts.length := by omega
  have hlt3 : j < W.length := by omega
  have hlk : kept.length < W.length := by omega
  have hlkm : kept.length < m := by omega
  have hWj : W[j] = ts[j] := by
   have := congrArg (fun q => q[j - kept.length]?) hW2
   simp only [getElem?_drop] at this
   rw [Nat.add_sub_of_le hkj, getElem?_eq_getElem hlt3, getElem?_eq_getElem hlt2] at this
   exact Option.some.inj this
  have hWk : W[kept.length] = ts[kept.length] := by
   have := congrArg (fun q => q[0]?) hW2
   simp only [getElem?_drop, Nat.add_zero] at this
   rw [getElem?_eq_getElem hlk, getElem?_eq_getElem (by omega)] at this
   exact Option.some.inj this
  obtain ⟨hw, hw2⟩ := s.wide ts[j] (getElem_mem hlt2)
  have htk : ts[j].c.take 4 = ts[j].c := take_of_length_le (by omega)
  have hwk := (s.wide ts[kept.length] (getElem_mem (by omega))).1
  have hdk : ts[kept.length].c.drop 4 = [] := drop_eq_nil_of_le (by omega)
  have htk2 := fun u => take_succ_eq_append_getElem (l := ts) (i := u)
  simp (disch := (first | omega | (simp only [ls_, la_, lc_, ln_]; first | done | omega))) only [aG_, go_sem, reduceEqDiff, Nat.reduceAdd, reduceCtorEq, ↓reduceIte, t0, t1, t6, hrow, hlt, hW, hWj, hw, hw2, htk, hc, Nat.sub_zero, Int.zero_add]
  refine hp j hlt hlt2 _ (by simp; omega) (fun x q1 q2 q3 => by (repeat (first | rw [ad_ (by omega)] | rw [ag_ (by first | omega | (simp only [ls_, la_, lc_, ln_]; omega))])); exact hkeep x q1 q2 q3) (hst j h _ (by simp) (fun x q1 _ => ag_ q1) hIj) _ (fun H2 l2 m2 I2 => ?_)
  simp only [la_, lc_, ln_] at l2
  have rw2 := (m2 l (by simp; omega) hFl).trans (aQ_ hrow)
  have rw3 := (m2 h.length (by simp) (fun q => by have := hFr _ q; omega)).trans (f0_ h _)
  cases q : p ts[j]
  ·simp (disch := (first | omega | (simp only [ls_, la_, lc_, ln_]; first | done | omega))) only [go_sem, reduceEqDiff, reduceCtorEq, ↓reduceIte, t0, t5, t6, rw2, rw3, hlkm, hW, hWk, hw, hw2, htk, hwk, hdk, Int.zero_add, aU_]
   have e1 : (ts.take (j + 1)).filter (fun t => !p t) = kept ++ [ts[j]] := by rw [htk2 j hlt2, filter_append, ← hkp]; simp [q]
   refine ⟨m - (j + 1), by omega, hJ _ _ _ ⟨j + 1, kept ++ [ts[j]], W.set kept.length ts[j], by simp [upd, t0], by simp [upd, t1], by simp [upd], by simp [upd], by (try simp only [ls_]); omega, fun x q1 q2 q3 => ?_, hst (j + 1) H2 _ (by simp) (fun x q1 q2 => ad_ (Ne.symm q2)) I2, ?_, e1.symm, by simp [hW], ?_, ?_, by simp; omega, rfl, by omega⟩⟩
   ·rw [ad_ (by omega), m2 x (by simp; omega) q3, ag_ (by omega)]; exact hkeep x q1 q2 q3
   ·rw [aD_ (by omega), map_set]
   ·rw [la_, length_singleton, take_succ_eq_append_getElem (by simpa using hlk), getElem_set_self, take_set_of_le (Nat.le_refl _), hW1]
   ·rw [la_, length_singleton, drop_set_of_lt (by omega), ← drop_drop, hW2, drop_drop]
  ·simp (disch := (first | omega | (simp only [ls_, la_, lc_, ln_]; first | done | omega))) only [go_sem, reduceEqDiff, ↓reduceIte, t6, aU_]
   have e1 : (ts.take (j + 1)).filter (fun t => !p t) = kept := by rw [htk2 j hlt2, filter_append, ← hkp]; simp [q]
   refine ⟨m - (j + 1), by omega, hJ _ _ _ ⟨j + 1, kept, W, by simp [upd, t0], by simp [upd, t1], by simp [upd, t5], by simp [upd], by omega, fun x q1 q2 q3 => ?_, I2, ?_, e1.symm, hW, hW1, hW2, by omega, rfl, by omega⟩⟩
   ·rw [m2 x (by simp; omega) q3, ag_ (by omega)]; exact hkeep x q1 q2 q3
   ·exact rw2
 have e : j = m := by omega
 subst e
 have zc : List AV := [.val (.int .i64 0), .val (.int .i64 0), .val (.string (txt [])), .val (.slice none 0 0)]
 have hz : (W.map Tr.c).take kept.length ++ (List.replicate (j - kept.length) [.val (.int .i64 0), .val (.int .i64 0), .val (.string (txt [])), .val (.slice none 0 0)] ++ (W.map Tr.c).drop j) = (kept ++ (List.replicate (j - kept.length) (⟨[.val (.int .i64 0), .val (.int .i64 0), .val (.string (txt [])), .val (.slice none 0 0)], [.val (.int .i64 0), .val (.int .i64 0), .val (.string (txt [])), .val (.slice none 0 0)], []⟩ : Tr) ++ ts.drop j)).map Tr.c := by
  have e2 : W.drop j = ts.drop j := by
   have := congrArg (List.drop (j - kept.length)) hW2
   rwa [drop_drop, drop_drop, Nat.add_sub_of_le hkj] at this
  rw [map_append, map_append, map_replicate, ← map_take, ← map_drop, hW1, e2]
 have hz2 : (kept ++ (List.replicate (j - kept.length) (⟨[.val (.int .i64 0), .val (.int .i64 0), .val (.string (txt [])), .val (.slice none 0 0)], [.val (.int .i64 0), .val (.int .i64 0), .val (.string (txt [])), .val (.slice none 0 0)], []⟩ : Tr) ++ ts.drop j)).length = ts.length := by
  simp only [la_, length_replicate, length_drop]; omega
 have hkt := hkj
 generalize hts : kept ++ (List.replicate (j - kept.length) (⟨[.val (.int .i64 0), .val (.int .i64 0), .val (.string (txt [])), .val (.slice none 0 0)], [.val (.int .i64 0), .val (.int .i64 0), .val (.string (txt [])), .val (.slice none 0 0)], []⟩ : Tr) ++ ts.drop j) = ts' at hz hz2
 simp (disch := (first | omega | (simp only [ls_, la_, lc_, ln_]; first | done | omega))) only [aD_, go_sem, reduceEqDiff, reduceCtorEq, ↓reduceIte, t0, t5, t6, hrow, hlt, hW, hle, hkt, hz, hz2, Nat.sub_zero]
 have hold : (kept ++ ts.drop j).Sublist ts := by
  have : (ts.take j ++ ts.drop j).Sublist ts := by rw [take_append_drop]; exact List.Sublist.refl _
  exact (List.Sublist.append (by rw [hkp]; exact filter_sublist) (List.Sublist.refl _)).trans this
 have hnil : ∀ x, x ∉ ((List.replicate (j - kept.length) (⟨[.val (.int .i64 0), .val (.int .i64 0), .val (.string (txt [])), .val (.slice none 0 0)], [.val (.int .i64 0), .val (.int .i64 0), .val (.string (txt [])), .val (.slice none 0 0)], []⟩ : Tr)).map Tr.f).flatten := by
  intro x hx
  obtain ⟨f, q1, q2⟩ := mem_flatten.1 hx
  obtain ⟨y, q3, rfl⟩ := mem_map.1 q1
  rw [(mem_replicate.1 q3).2] at q2
  cases q2
 have hfin : bb_ lo (h.set l ⟨.ty 64, 4, ts'.map Tr.c⟩) 64 4 l kept.length ts' := by
  refine s.renew (l' := l) (new := List.replicate (j - kept.length) (⟨[.val (.int .i64 0), .val (.int .i64 0), .val (.string (txt [])), .val (.slice none 0 0)], [.val (.int .i64 0), .val (.int .i64 0), .val (.string (txt [])), .val (.slice none 0 0)], []⟩ : Tr)) (old := kept ++ ts.drop j) (aD_ gl) (by omega) ?_ hold (fun t ht => by rw [(mem_replicate.1 ht).2]; exact ⟨rfl, rfl⟩) ⟨1, fun t ht => ?_⟩ ?_ (fun x hx => absurd hx (hnil x)) (fun x hx => ?_) (.inl rfl) (by simpa using hl)
  ·rw [← hts]
   exact (perm_append_comm_assoc _ _ _)
  ·rw [(mem_replicate.1 ht).2]
   repeat (first | exact ⟨rfl, rfl⟩ | refine ⟨_, _, [], [], rfl, rfl, ⟨rfl, .inl rfl⟩, ?_⟩)
  ·rw [eq_nil_iff_forall_not_mem.2 hnil]; exact nodup_nil
  ·have h5 : x ≠ l := fun e => (nodup_cons.1 s.one).1 (e ▸ hx)
   have h6 := (s.lows x (mem_cons_of_mem _ hx)).2
   rw [ad_ (by omega)]; exact hkeep x h6 h5 (hFf x (mem_cons_of_mem _ hx))
 have := hk _ kept.length ts' (by simpa using hl) (fun x q1 q2 q3 => by rw [ad_ (by omega)]; exact hkeep x q1 q2 q3) hfin hz2 ?_ (by rw [← hts, take_left', hkp]; rfl) (hst _ h _ (by simp) (fun x q1 q2 => ad_ (Ne.symm q2)) hIj)
 ·rw [hz2] at this; exact this
 ·intro x hx
  rw [← hts] at hx
  rcases mem_cons.1 hx with q | q
  ·subst q; simp [aF_]
  ·obtain ⟨f, q1, q2⟩ := mem_flatten.1 q
   obtain ⟨y, q3, rfl⟩ := mem_map.1 q1
   rcases mem_append.1 q3 with q4 | q4
   ·exact e1_ (hold.subset (mem_append_left _ q4)) q2
   ·rcases mem_append.1 q4 with q5 | q5
    ·rw [(mem_replicate.1 q5).2] at q2; cases q2
    ·exact e1_ (mem_of_mem_drop q5) q2
def dU_ (k : Int) (g : ae_) : Bool := bh_ g.Until 1 k
def f9_ (x : ab_) (k : Int) : List Int := (x.Asks.filter (dU_ k)).map ae_.Job
def gK_ (x : ab_) (k : Int) : ab_ := ⟨x.Held, x.Asks.filter fun g => !dU_ k g⟩
def e5_ (x : ab_) (k : Int) (n : Nat) : List Int := ((x.Asks.take n).filter (dU_ k)).map ae_.Job
theorem l1_ {x : ab_} {k : Int} {n : Nat} (h : n < x.Asks.length) : e5_ x k (n + 1) = if dU_ k x.Asks[n] = true then e5_ x k n ++ [x.Asks[n].Job] else e5_ x k n := by
 unfold e5_
 rw [take_succ_eq_append_getElem h, filter_append, map_append]
 by_cases q : dU_ k x.Asks[n] = true
 ·rw [if_pos q]; simp [q]
 ·rw [if_neg q]; simp [q]
theorem nv_ (x : ab_) (k : Int) (n : Nat) : (e5_ x k n).length ≤ x.Asks.length := by
 unfold e5_
 rw [length_map]
 exact Nat.le_trans (length_filter_le _ _) (by rw [length_take]; omega)
def v5_ : LC :=
 .q [.o [.bx 3 64 0, .f 4], .o [.fa 6 1 3, .ln 7 6, .ln 8 1, .s 9 (.call 67 [.tmp 7, .const (.int .i64 1), .tmp 8]), .m 5 9], .q [.o [.m 10 5], .k 10 (.o [.ln 11 2, .fa 12 0 3, .ln 13 12, .s 14 (.buildSlice 2 1 (.int .i64
 0) 1 [(0, .tmp 13)]), .ap 15 2 1 8 11 14, .st 1 2 15]) .skip], .o [.m 16 5, .m 4 16], .ret]
def tI_ : LF := ⟨3, 17, v5_, [.tmp 4]⟩
theorem va_ : aA_ Tryz.prog Tryz.f109 tI_ := ak_
theorem hC_ {H : List Row} {M B lj : Nat} {EM EB : Tag} (g : ae_) (k : Int) {c4 : AV} (hc : c4.cell = true) (out : List Int) (hM : H[M]? = some ⟨EM, 1, [[.val (.int .i64 k)]]⟩) (hB : H[B]? = some ⟨EB, 1, [[.own lj out.length]]⟩) (hl : H[lj]? = some ⟨.ty 2, 1, av_ out⟩) (h1 : M ≠ B) (h2 : M ≠ lj) (h3 : B ≠ lj) (ho : out.length ≤ 1000) {K : AV → List Row → Prop}
 (hk : ∀ H', H.length ≤ H'.length → (∀ y, y < H.length → y ≠ B → y ≠ lj → H'[y]? = H[y]?) → H'[B]? = some ⟨EB, 1, [[.own lj (if dU_ k g = true then out ++ [g.Job] else out).length]]⟩ → H'[lj]? = some ⟨.ty 2, 1, av_ (if dU_ k g = true then out ++ [g.Job] else out)⟩ → K (.val (.bool (dU_ k g))) H') :
 callSem Tryz.prog 109 [.agg [.val (.int .i64 g.Job), .val (.int .i64 g.Until), .val (.string g.Name), c4], .ptr M 1 0 0, .ptr B 1 0 0] H K := by
 refine aS_ mixed Tryz.func109 va_ (bs_ rfl ?_)
 have l1 := (List.getElem?_eq_some_iff.1 hM).1
 have l2 := (List.getElem?_eq_some_iff.1 hB).1
 have l3 := (List.getElem?_eq_some_iff.1 hl).1
 have hc' := hc
 simp only [AV.cell, Value.oneCell'] at hc'
 simp (disch := (first | omega | (simp only [ls_, la_, lc_, ln_]; first | done | omega))) only [ag_, aG_, go_sem, Nat.reduceEqDiff, Nat.reduceAdd, ↓reduceIte, tI_, v5_, hM, hc']
 refine aa_.call (bL_ _ _ _ _) ?_
 cases q : dU_ k g
 ·have q' : bh_ g.Until 1 k = false := q
  simp (disch := (first | omega | (simp only [ls_, la_, lc_, ln_]; first | done | omega))) only [go_sem, Nat.reduceEqDiff, ↓reduceIte, q']
  rw [q] at hk
  exact hk _ (by simp) (fun y y1 _ _ => ag_ y1) (by (repeat (first | rw [ad_ (by omega)] | rw [ag_ (by first | omega | (simp only [ls_, la_, lc_, ln_]; omega))])); exact hB) (by (repeat (first | rw [ad_ (by omega)] | rw [ag_ (by first | omega | (simp only [ls_, la_, lc_, ln_]; omega))])); exact hl)
 ·have q' : bh_ g.Until 1 k = true := q
  simp (disch := (first | omega | (simp only [ls_, la_, lc_, ln_]; first | done | omega))) only [ad_, ag_, aG_, bw_, go_sem, Nat.reduceEqDiff, Nat.reduceLeDiff, ↓reduceIte, q', hB, hl, bz_]
  repeat (refine And.intro (by first | omega | (exact strs_cellv _) | assumption | (simp; done)) ?_)
  rw [q] at hk
  refine hk _ (by simp) (fun y y1 y2 y3 => by (repeat (first | rw [ad_ (by omega)] | rw [ag_ (by first | omega | (simp only [ls_, la_, lc_, ln_]; omega))]))) ?_ ?_
  ·rw [aD_ (by simp; omega)]; simp
  ·rw [ad_ h3, aD_ (by simp; omega)]; simp
def c68 : LC :=
 .q [.o [.bx 3 2 1, .nl 4], .o [.s 6 (.buildSlice 2 1 (.int .i64 0) 0 []), .s 5 (.alloc 27 (.slice none 0 0)), .st 1 5 6], .o [.m 7 0, .m 8 0, .nc 9 8, .fa 10 1 9, .ln 11 10, .s 12 (.mkFunc 109 [] [.tmp 3, .tmp 5]), .c2
 13 107 11 12, .nc 14 7, .fa 15 1 14, .st 1 15 13], .o [.ln 16 5, .m 4 16], .ret]
def wN_ : LF := ⟨2, 17, c68, [.tmp 4]⟩
theorem yF_ : aA_ Tryz.prog Tryz.f68 wN_ := ak_
theorem hZ_ {lo : Nat} {H : List Row} {L : Nat} {x : ab_} {F : List Nat} (k : KX lo H L x F) (hl : bP_ x) (tk : Int) {K : AV → List Row → Prop}
 (hk : ∀ H' F', Fr H H' L F F' → KX lo H' L (gK_ x tk) F' → H'[H.length + 1]? = some ⟨.ty 2, 1, av_ (f9_ x tk)⟩ → H.length + 1 ∉ F' → K (.own (H.length + 1) (f9_ x tk).length) H') : callSem Tryz.prog 68 [.ptr L 1 0 0, .val (.int .i64 tk)] H K := by
 refine aS_ mixed Tryz.func68 yF_ (bs_ rfl ?_)
 have hko := k.out
 have hal := hl.alen
 obtain ⟨a, b, lh, mh, th, la, ma, ta, B, hF⟩ := k
 have box := B.box
 have hLH := hko.2.2.1
 have hma := B.kl.ma_eq
 have hla : la ∈ F := by rw [hF]; exact mem_append_right _ mem_cons_self
 have hlal := (hko.2.2.2 la hla).2
 have hLa : L ≠ la := fun e => B.out2 (by rw [e]; exact mem_cons_self)
 simp (disch := (first | omega | (simp only [ls_, la_, lc_, ln_]; first | done | omega))) only [ag_, cA_, go_sem, Nat.reduceEqDiff, Nat.reduceAdd, reduceCtorEq, ↓reduceIte, wN_, c68, box]
 refine jX_ B.kl.hb ?_
 have s0 := B.kl.asks.more (aK_.app H [(⟨.ty 2, 1, [[.val (.int .i64 tk)]]⟩ : Row), ⟨.ty 2, 1, []⟩, ⟨.ty 27, 1, [[.own (H.length + 1) 0]]⟩])
 refine fH_ s0 (fun t => dU_ tk (fl_ t.d)) 109 [.ptr H.length 1 0 0, .ptr (H.length + 2) 1 0 0] (by omega) (by kernel_rfl)
  (fun j h => h[H.length]? = some ⟨.ty 2, 1, [[.val (.int .i64 tk)]]⟩ ∧ h[H.length + 2]? = some ⟨.ty 27, 1, [[.own (H.length + 1) (e5_ x tk j).length]]⟩ ∧ h[H.length + 1]? = some ⟨.ty 2, 1, av_ (e5_ x tk j)⟩)
  (fun y => y = H.length + 1 ∨ y = H.length + 2) (fun y hy => by simp; omega) (fun y hy q => ?_) ⟨aG_ rfl, cA_ rfl, bw_ rfl⟩ (fun j H' H'' q1 q2 q3 => ?_) (fun j hj hjt H' q1 q2 q3 K' hK' => ?_) (fun H2 m2 ts2 g1 g2 g3 g4 g5 g6 g7 => ?_)
 ·have := hko.2.2.2 y (by rw [hF]; exact mem_append_right _ hy)
  omega
 ·obtain ⟨i1, i2, i3⟩ := q3
  have z1 := (List.getElem?_eq_some_iff.1 i1).1
  have z2 := (List.getElem?_eq_some_iff.1 i2).1
  have z3 := (List.getElem?_eq_some_iff.1 i3).1
  exact ⟨(q2 _ z1 (by omega)).trans i1, (q2 _ z2 (by omega)).trans i2, (q2 _ z3 (by omega)).trans i3⟩
 ·obtain ⟨i1, i2, i3⟩ := q3
  have hjx : j < x.Asks.length := by omega
  obtain ⟨kk, htree⟩ := B.kl.asks.tree
  have ht2 := htree ta[j] (getElem_mem hjt)
  obtain ⟨_, _, hid⟩ := jT_ B.kl hjx
  rw [hid] at ht2
  obtain ⟨c4, e4, hc4, _⟩ := g4_ ht2
  rw [hid, fB_] at hK'
  rw [e4]
  have hol := nv_ x tk j
  refine hC_ x.Asks[j] tk hc4 (e5_ x tk j) i1 i2 i3 (by omega) (by omega) (by omega) (by omega) (fun H'' r1 r2 r3 r4 => ?_)
  have z1 := (List.getElem?_eq_some_iff.1 i1).1
  refine hK' H'' r1 (fun y y1 y2 => r2 y y1 (fun e => y2 (.inr e)) (fun e => y2 (.inl e))) ⟨(r2 _ z1 (by omega) (by omega)).trans i1, ?_, ?_⟩
  ·rw [l1_ hjx]; exact r3
  ·rw [l1_ hjx]; exact r4
 obtain ⟨i1, i2, i3⟩ := g7
 have hall : e5_ x tk ma = f9_ x tk := by rw [e5_, hma, take_length]; rfl
 rw [hall] at i2 i3
 simp only [la_, lc_, ln_] at g1
 have hds : (ts2.take m2).map Tr.d = (x.Asks.filter fun g => !dU_ tk g).map ae_.cells := by
  rw [g6]; exact k0_ ae_.cells fl_ fB_ (fun g => !dU_ tk g) _ _ B.kl.ad
 have keep : ∀ z, z < H.length → z ≠ la → H2[z]? = H[z]? := fun z z1 z2 => (g2 z (by simp; omega) z2 (by omega)).trans (ag_ z1)
 obtain ⟨K4, f4⟩ := ue_ B (by omega) keep g3 g5 hds
 have box2 : H2[L]? = _ := (keep L hLH hLa).trans box
 simp (disch := (first | omega | (simp only [ls_, la_, lc_, ln_]; first | done | omega))) only [ad_, go_sem, Nat.reduceEqDiff, Nat.reduceAdd, ↓reduceIte, box2, i2]
 rw [← hF] at f4
 refine hk _ _ f4 K4 (by rw [ad_ (by omega)]; exact i3) (fun z => ?_)
 rcases f4.sub _ z with w | w
 ·have := (hko.2.2.2 _ w).2; omega
 ·rcases mem_append.1 z with w2 | w2
  ·have := (B.kl.held.lows _ w2).2; omega
  ·have := (B.kl.asks.lows _ (g5 _ w2)).2; omega
theorem eq_ {t : Nat → AV} {h : List Row} (a s u w : Nat) (n : Option Nat) (K : AV → List Row → Prop) : ce_ [.cell a n, .tmp s, .tmp u, .tmp w] K .ret t h = match am_ t h (.load n (.tmp a)) with | some av => K (.tup [av, t s, t u, t w]) h | none => False := by
 simp only [ce_, d6_, mapM_cons, mapM_nil]
 cases am_ t h (.load n (.tmp a)) <;> simp [eT_]
abbrev jv_ (p : ab_ × List Int × List Int × Int) : AV := .tup [.agg (ab_.cells p.1), .list 0 1 (av_ p.2.1), .list 0 1 (av_ p.2.2.1), .val (.int .i64 p.2.2.2)]
def vi_ (a : AV) : Prop := ∃ b c d e, b.cell = true ∧ c.cell = true ∧ ∃ v, a = .tup [.agg [b, c], d, e, .val (.int .i64 v)]
theorem nX_ {J : Nat} {H : List Row} {E : Tag} {out : List Int} (hr : H[J]? = some ⟨E, 1, av_ out⟩) : ∃ n fs, Own H n (.own J out.length) (.list 0 1 (av_ out)) fs ∧ fs.Nodup ∧ ∀ y ∈ fs, y = J := by
 obtain ⟨n2, fs, p1, p2, p3⟩ := hW_ (lo := J) (hi := J + 1) hr (Nat.le_refl _) (Nat.lt_succ_self _)
 exact ⟨n2, fs, p1, p2, fun y hy => by have := p3 y hy; omega⟩
theorem xy_ {lo : Nat} {H : List Row} {x : ab_} {a b : AV} {lh mh : Nat} {th : List Tr} {la ma : Nat} {ta : List Tr} (k : KL lo H x a b lh mh th la ma ta) {J J2 : Nat} {E E2 : Tag} {out out2 : List Int} (hr : H[J]? = some ⟨E, 1, av_ out⟩) (hr2 : H[J2]? = some ⟨E2, 1, av_ out2⟩) (hJ : J ∉ aF_ lh th ++ aF_ la ta) (hJ2 : J2 ∉ aF_ lh th ++ aF_ la ta) (hne : J ≠ J2) (h1 : lo ≤ J) (h2 : lo ≤ J2) (v : Int) :
 aP_ lo H.length H (.tup [.agg [a, b], .own J out.length, .own J2 out2.length, .val (.int .i64 v)]) (jv_ (x, out, out2, v)) := by
 obtain ⟨n, h⟩ := k.ownL
 obtain ⟨n2, fs, p1, p2, p3⟩ := nX_ hr
 obtain ⟨n3, gs, q1, q2, q3⟩ := nX_ hr2
 have hJl := (List.getElem?_eq_some_iff.1 hr).1
 have hJl2 := (List.getElem?_eq_some_iff.1 hr2).1
 have h0 : Own H (n + 1) (.agg [a, b]) (.agg (ab_.cells x)) (aF_ lh th ++ aF_ la ta) := show Own H (n + 1) (.agg _) (.agg _) _ from ⟨_, h, rfl⟩
 have h3 := au_.mk_list h0 (au_.mk_list p1 (au_.mk_list q1 (au_.mk_val (.int .i64 v) (au_.mk_nil (Own H (0 + 1))))))
 rw [append_nil] at h3
 refine ⟨⟨_, (aF_ lh th ++ aF_ la ta) ++ (fs ++ gs), show Own H (_ + 1) (.tup _) (.tup _) _ from ⟨_, h3, rfl⟩, ?_, fun y hy => ?_⟩⟩
 ·rw [nodup_append]
  refine ⟨?_, ?_, fun y hy z hz e => ?_⟩
  ·rw [nodup_append]
   exact ⟨k.held.one, k.asks.one, fun y hy z hz e => by subst e; exact k.apart y hy hz⟩
  ·rw [nodup_append]
   exact ⟨p2, q2, fun y hy z hz e => by rw [p3 y hy, q3 z hz] at e; exact hne e⟩
  ·subst e
   rcases mem_append.1 hz with w | w
   ·rw [p3 y w] at hy; exact hJ hy
   ·rw [q3 y w] at hy; exact hJ2 hy
 ·rcases mem_append.1 hy with q | q
  ·rcases mem_append.1 q with q | q
   ·exact k.held.lows y q
   ·exact k.asks.lows y q
  ·rcases mem_append.1 q with q | q
   ·rw [p3 y q]; omega
   ·rw [q3 y q]; omega
theorem pu_ {lo m hi : Nat} {H : List Row} {c d : AV} (hC : aP_ lo m H c (.list 0 1 (av_ []))) (hD : aP_ m hi H d (.list 0 1 (av_ []))) (h : lo ≤ m) (h2 : m ≤ hi) (v : Int) : aP_ lo hi H (.tup [.agg [.val (.slice none 0 0), .val (.slice none 0 0)], c, d, .val (.int .i64 v)]) (jv_ (fS_, [], [], v)) :=
 aP_.tup (aH_.cons (mid := lo) (aP_.agg (aH_.cons (mid := lo) (aP_.mknil _ _ _ _) (aH_.cons (mid := lo) (aP_.mknil _ _ _ _) (aH_.nil _ _ _) ⟨Nat.le_refl _, Nat.le_refl _⟩) ⟨Nat.le_refl _, Nat.le_refl _⟩)) (aH_.cons hC (aH_.cons hD (aH_.val _ (aH_.nil _ _ _)) ⟨h2, Nat.le_refl _⟩) ⟨h, h2⟩) ⟨Nat.le_refl _, Nat.le_trans h h2⟩)
def a1_ (x : ab_) (k : Int) : ab_ × List Int × List Int × Int :=
 if (cl_ x && bh_ k 0 999999) = true then ((cd_ (gK_ x k)).1, f9_ x k, (cd_ (gK_ x k)).2, 0) else (fS_, [], [], 1)
theorem jM_ {x : ab_} (h : bP_ x) (k : Int) : bP_ (gK_ x k) := by
 have := h.filter (fun _ => true) (fun g => !dU_ k g)
 have e : x.Held.filter (fun _ => true) = x.Held := filter_eq_self.2 fun _ _ => rfl
 rw [e] at this
 exact this
def c29 : LC :=
 .q [.o [.bx 2 32 0, .s 4 (.alloc 32 z0z), .nl 5, .nl 6, .ki 7 0], .q [.o [.ld 11 2 2, .c1 12 36 11, .nt 13 12, .m 14 13, .gm 15 14 false 1, .g 16 14 false (.call 67 [.tmp 15, .const (.int .i64 0), .const (.int .i64
 999999)]), .gu 17 14 false 16, .pt 18 14 17], .k 18 (.q [.o [.s 19 (.build z0z [(0, 1), (1, 1)] []), .st 2 4 19, .nl 5, .nl 6, .ki 7 1], .ret]) .skip], .o [.ld 20 2 2, .c1 21 58 20, .m 8 21], .o [.m 22 8, .m 23 1, .c2 24
 68 22 23, .m 9 24], .o [.m 25 8, .c1 26 60 25, .m 10 26], .o [.m 27 8, .nc 28 27, .ld 29 2 28, .m 30 9, .m 31 10, .st 2 4 29, .m 5 30, .m 6 31, .ki 7 0], .ret]
def v3_ : LF := ⟨2, 32, c29, [.cell 4 (some 2), .tmp 5, .tmp 6, .tmp 7]⟩
theorem x9_ : aA_ Tryz.prog Tryz.f29 v3_ := ak_
theorem eL_ (x : ab_) (k : Int) (hx : ab_.sz x ≤ 1048576) : br_ Tryz.prog 29 [.agg (ab_.cells x), .val (.int .i64 k)] (jv_ (a1_ x k)) vi_ := by
 refine hr_ mixed Tryz.func29 x9_ rfl (fun h0 => ?_)
 simp (disch := (first | omega | (simp only [ls_, la_, lc_, ln_]; first | done | omega))) only [aG_, go_sem, Nat.reduceEqDiff, Nat.reduceAdd, ↓reduceIte, v3_, c29, h5_]
 refine aa_.call (lt_ x hx _) ?_
 cases q : cl_ x
 ·have hR : a1_ x k = (fS_, [], [], 1) := by rw [a1_, q]; rfl
  rw [hR]
  simp (disch := (first | omega | (simp only [ls_, la_, lc_, ln_]; first | done | omega))) only [bw_, go_sem, Nat.reduceEqDiff, Nat.reduceAdd, ↓reduceIte, dh_, Option.map_some, eq_]
  exact ⟨⟨aK_.app _ _, pu_ (m := h0.length) (aP_.mknil _ _ _ _) (aP_.mknil _ _ _ _) (Nat.le_refl _) (by simp) _⟩, _, _, _, _, rfl, rfl, _, rfl⟩
 have hI := bP_.of q
 simp (disch := (first | omega | (simp only [ls_, la_, lc_, ln_]; first | done | omega))) only [go_sem, Nat.reduceEqDiff, ↓reduceIte]
 refine aa_.call (bL_ _ _ _ _) ?_
 cases qj : bh_ k 0 999999
 ·have hR : a1_ x k = (fS_, [], [], 1) := by rw [a1_, q, qj]; rfl
  rw [hR]
  simp (disch := (first | omega | (simp only [ls_, la_, lc_, ln_]; first | done | omega))) only [bw_, go_sem, Nat.reduceEqDiff, Nat.reduceAdd, ↓reduceIte, dh_, Option.map_some, eq_]
  exact ⟨⟨aK_.app _ _, pu_ (m := h0.length) (aP_.mknil _ _ _ _) (aP_.mknil _ _ _ _) (Nat.le_refl _) (by simp) _⟩, _, _, _, _, rfl, rfl, _, rfl⟩
 have hR : a1_ x k = ((cd_ (gK_ x k)).1, f9_ x k, (cd_ (gK_ x k)).2, 0) := by rw [a1_, q, qj]; rfl
 rw [hR]
 simp (disch := (first | omega | (simp only [ls_, la_, lc_, ln_]; first | done | omega))) only [aG_, go_sem, Nat.reduceEqDiff, Nat.reduceAdd, ↓reduceIte]
 refine jE_ x hx (fun H1 L a b lh mh th la ma ta m1 B => ?_)
 have l1 := m1.len
 simp only [la_, lc_, ln_] at l1
 have B0 := B.lt
 simp only [la_, lc_, ln_] at B0
 have o1 := m1.at (i := h0.length + 1) (bw_ rfl)
 simp (disch := (first | omega | (simp only [ls_, la_, lc_, ln_]; first | done | omega))) only [go_sem, Nat.reduceEqDiff, ↓reduceIte]
 refine hZ_ ⟨a, b, lh, mh, th, la, ma, ta, B, rfl⟩ hI k (fun H2 F2 f2 K2 j2 n2 => ?_)
 have l2 := f2.len
 have low1 := (show KX (h0.length + 2) H1 L x (aF_ lh th ++ aF_ la ta) from ⟨a, b, lh, mh, th, la, ma, ta, by simpa using B, rfl⟩).out
 have hJl := (List.getElem?_eq_some_iff.1 j2).1
 simp (disch := (first | omega | (simp only [ls_, la_, lc_, ln_]; first | done | omega))) only [go_sem, Nat.reduceEqDiff, ↓reduceIte]
 refine iL_ K2 (jM_ hI k) (fun H3 F3 J f3 K3 hJ1 hJ2 hJ3 => ?_)
 have l3 := f3.len
 have f4 := f2.trans f3
 have kept : ∀ y, y < h0.length + 2 → H3[y]? = H1[y]? := fun y hy => f4.kept y (by omega) (by omega) fun z => by have := low1.2.2.2 y z; omega
 have j3 : H3[H1.length + 1]? = _ := (f3.kept _ hJl (by omega) n2).trans j2
 have n3 : H1.length + 1 ∉ F3 := fun z => (f3.sub _ z).elim n2 fun w => by omega
 obtain ⟨a3, b3, lh3, mh3, th3, la3, ma3, ta3, B3, rfl⟩ := K3
 have box3 := B3.box
 have p1 : H3[h0.length + 1]? = _ := (kept _ (by omega)).trans o1
 have ca := B3.kl.ha.cell
 have cb := B3.kl.hb.cell
 have ca' := ca
 have cb' := cb
 simp only [AV.cell, Value.oneCell'] at ca' cb'
 simp (disch := (first | omega | (simp only [ls_, la_, lc_, ln_]; first | done | omega))) only [aD_, go_sem, Nat.reduceEqDiff, Nat.reduceAdd, ↓reduceIte, p1, box3, ca', cb', eq_]
 have low3 := (show KX (h0 ++ _).length H3 L _ (aF_ lh3 th3 ++ aF_ la3 ta3) from ⟨a3, b3, lh3, mh3, th3, la3, ma3, ta3, B3, rfl⟩).out
 simp only [la_, lc_, ln_] at low3
 have hno : ∀ y ∈ aF_ lh3 th3 ++ aF_ la3 ta3, h0.length + 1 ≠ y := fun y hy => by have := low3.2.2.2 y hy; omega
 refine ⟨⟨⟨by simp; omega, fun y hy => ?_⟩, ?_⟩, a3, b3, _, _, ca, cb, _, rfl⟩
 ·rw [ad_ (by omega), kept y (by omega), m1.kept y (by simp; omega), ag_ hy]
 ·refine (xy_ (B3.kl.keep (fun y hy => ad_ (hno y (mem_append_left _ hy))) (fun y hy => ad_ (hno y (mem_append_right _ hy))) (by simp)) (J := H1.length + 1) (J2 := J) (E := .ty 2) (E2 := .ty 2) (by rw [ad_ (by omega)]; exact j3) (by rw [ad_ (by omega)]; exact hJ3) n3 hJ2 (by omega) (by simp; omega) (by simp; omega) 0).widen (by simp) (Nat.le_refl _)
def c28 : LC :=
 .q [.o [.bx 2 32 0, .s 4 (.alloc 32 z0z), .nl 5, .nl 6, .ki 7 0], .q [.o [.ld 14 2 2, .c1 15 32 14, .nt 16 15, .m 17 16, .gm 18 17 false 1, .g 19 17 false (.call 66 [.tmp 18, .const (.int .i64 0), .const (.int .i64
 999999)]), .gu 20 17 false 19, .pt 21 17 20], .k 21 (.q [.o [.s 22 (.build z0z [(0, 1), (1, 1)] []), .s 23 (.buildSlice 2 1 (.int .i64 0) 0 []), .s 24 (.buildSlice 2 1 (.int .i64 0) 0 []), .st 2 4 22, .m 5 23, .m 6 24,
 .ki 7 1], .ret]) .skip], .o [.ld 25 2 2, .c1 26 55 25, .s 8 (.alloc 32 z0z), .st 2 8 26], .o [.fa 27 0 8, .ln 28 27, .s 29 (.build z0z [(0, 1), (1, 1)] [(0, .tmp 28)]), .s 9 (.alloc 32 z0z), .st 2 9 29], .o [.s 30
 (.buildSlice 2 1 (.int .i64 0) 0 []), .m 10 30], .q [.o [.ki 11 0], .block 0 (.ghost (.loop (.q [.q [.o [.m 31 11, .fa 32 1 8, .ln 33 32, .ll 34 33, .bb 35 .lss false 31 34], .k 35 .skip (.exit 0)], .block 1 (.q [.o [.fa
 38 1 8, .ln 39 38, .m 40 11, .ia 41 4 39 40, .fa 42 1 41, .ln 43 42, .m 44 1, .s 45 (.call 66 [.tmp 43, .const (.int .i64 1), .tmp 44])], .k 45 (.o [.m 46 10, .fa 47 1 8, .ln 48 47, .m 49 11, .ia 50 4 48 49, .fa 51 0 50,
 .ln 52 51, .s 53 (.buildSlice 2 1 (.int .i64 0) 1 [(0, .tmp 52)]), .ap 54 2 1 8 46 53, .m 10 54]) (.gops [.fa 55 1 9, .ln 56 55, .fa 57 1 8, .ln 58 57, .m 59 11, .ia 60 4 58 59, .ld 61 4 60] [(.s 62 (.buildSlice 64 4
 (.agg #[.int .i64 0, .int .i64 0, .string ⟨#[]⟩, .slice none 0 0]) 1 [(0, .tmp 61)]), [.fa 55 1 9, .ln 56 55]), (.ap 63 64 4 56 56 62, []), (.fa 64 1 9, []), (.st 1 64 63, [])])]), .o [.m 36 11, .bk 37 .add false 36 1,
 .m 11 37]])))], .o [.ld 66 2 9, .c1 67 56 66, .m 65 67, .ex 68 65 0, .ex 69 65 1, .s 12 (.alloc 32 z0z), .st 2 12 68, .m 13 69], .o [.ld 70 2 12, .m 71 10, .m 72 13, .st 2 4 70, .m 5 71, .m 6 72, .ki 7 0], .ret]
def xz_ : LF := ⟨2, 73, c28, [.cell 4 (some 2), .tmp 5, .tmp 6, .tmp 7]⟩
theorem xQ_ : aA_ Tryz.prog Tryz.f28 xz_ := ak_
theorem j4_ (x : ab_) (k : Int) (hx : ab_.sz x ≤ 1048576) : br_ Tryz.prog 28 [.agg (ab_.cells x), .val (.int .i64 k)] (jv_ (a1_ x k)) vi_ := by
 refine hr_ mixed Tryz.func28 xQ_ rfl (fun h0 => ?_)
 simp (disch := (first | omega | (simp only [ls_, la_, lc_, ln_]; first | done | omega))) only [aG_, go_sem, reduceEqDiff, Nat.reduceAdd, ↓reduceIte, xz_, c28, h5_]
 refine aa_.call (na_ x hx _) ?_
 cases q : cl_ x
 ·have hR : a1_ x k = (fS_, [], [], 1) := by rw [a1_, q]; rfl
  rw [hR]
  simp (disch := (first | omega | (simp only [ls_, la_, lc_, ln_]; first | done | omega))) only [bw_, go_sem, reduceEqDiff, Nat.reduceAdd, ↓reduceIte, dh_, Option.map_some, eq_]
  exact ⟨⟨aK_.app _ _, pu_ (m := h0.length + 3) (hW_ (out := []) (J := h0.length + 2) (cA_ rfl) (by omega) (by omega)) (hW_ (out := []) (J := h0.length + 3) (jq_ rfl) (by omega) (by simp)) (by omega) (by simp) _⟩, _, _, _, _, rfl, rfl, _, rfl⟩
 have hI := bP_.of q
 simp (disch := (first | omega | (simp only [ls_, la_, lc_, ln_]; first | done | omega))) only [go_sem, reduceEqDiff, ↓reduceIte]
 refine aa_.call (b4_ _ _ _ _) ?_
 cases qj : bh_ k 0 999999
 ·have hR : a1_ x k = (fS_, [], [], 1) := by rw [a1_, q, qj]; rfl
  rw [hR]
  simp (disch := (first | omega | (simp only [ls_, la_, lc_, ln_]; first | done | omega))) only [bw_, go_sem, reduceEqDiff, Nat.reduceAdd, ↓reduceIte, dh_, Option.map_some, eq_]
  exact ⟨⟨aK_.app _ _, pu_ (m := h0.length + 3) (hW_ (out := []) (J := h0.length + 2) (cA_ rfl) (by omega) (by omega)) (hW_ (out := []) (J := h0.length + 3) (jq_ rfl) (by omega) (by simp)) (by omega) (by simp) _⟩, _, _, _, _, rfl, rfl, _, rfl⟩
 have hR : a1_ x k = ((cd_ (gK_ x k)).1, f9_ x k, (cd_ (gK_ x k)).2, 0) := by rw [a1_, q, qj]; rfl
 rw [hR]
 simp (disch := (first | omega | (simp only [ls_, la_, lc_, ln_]; first | done | omega))) only [aG_, go_sem, reduceEqDiff, Nat.reduceAdd, ↓reduceIte]
 refine lI_ x hx (fun H1 lh nh th la na ta m1 k1 => ?_)
 have l1 := m1.len
 simp only [la_, lc_, ln_] at l1
 have o1 := m1.at (i := h0.length + 1) (bw_ rfl)
 have mh1 : aK_ h0 H1 := (aK_.app _ _).trans m1
 have hal := hI.alen
 have hnh : nh = th.length ∧ na = ta.length := by
  rcases k1.ha with e | ⟨e, _⟩
  ·cases e
  ·rcases k1.hb with e2 | ⟨e2, _⟩
   ·cases e2
   ·simp only [AV.own.injEq, true_and] at e e2; exact ⟨e, e2⟩
 obtain ⟨rfl, rfl⟩ := hnh
 have hma := k1.ma_eq
 have hra := k1.asks.row
 have hlt2 := k1.asks.lt
 have ha : ta.map Tr.d = x.Asks.map ae_.cells := by have := k1.ad; rwa [take_length] at this
 have low : ∀ y, (y ∈ aF_ lh th ∨ y ∈ aF_ la ta) → h0.length + 2 ≤ y ∧ y < H1.length := fun y hy => by
  have h3 := hy.elim (fun z => k1.held.lows y z) (fun z => k1.asks.lows y z)
  simp only [la_, lc_, ln_] at h3
  omega
 have hla2 := low la (.inr mem_cons_self)
 simp (disch := (first | omega | (simp only [ls_, la_, lc_, ln_]; first | done | omega))) only [aG_, bw_, go_sem, reduceEqDiff, Nat.reduceAdd, reduceLeDiff, ↓reduceIte, dh_, Option.map_some]
 refine fv_ _ (fun t => iS_ (E := .ty 32) (s := 2) (L := H1.length + 1) [.own lh th.length] [] 64 4 (bw_ rfl)) ?_
 refine aE_ (fun n t h => ∃ (i : Nat) (em : List Tr), t 1 = .val (.int .i64 k) ∧ t 4 = .ptr (h0.length + 1) 1 0 0 ∧ t 8 = .ptr H1.length 1 0 0 ∧ t 9 = .ptr (H1.length + 1) 1 0 0 ∧ t 10 = .own (H1.length + 2) (e5_ x k i).length ∧ t 11 = .val (.int .i64 i) ∧ H1.length + 4 ≤ h.length ∧ (∀ y, y < H1.length → h[y]? = H1[y]?) ∧ h[H1.length]? = some ⟨.ty 32, 2, [[.own lh th.length, .own la ta.length]]⟩ ∧
  h[H1.length + 1]? = some ⟨.ty 32, 2, [[.own lh th.length, .own (H1.length + 3) em.length]]⟩ ∧ h[H1.length + 2]? = some ⟨.ty 2, 1, av_ (e5_ x k i)⟩ ∧ h[H1.length + 3]? = some ⟨.ty 64, 4, em.map Tr.c⟩ ∧ em.Sublist (ta.take i) ∧ em.map Tr.d = ((x.Asks.take i).filter fun g => !dU_ k g).map ae_.cells ∧ n = x.Asks.length - i ∧ i ≤ x.Asks.length) x.Asks.length ?_ ?_
 ·exact ⟨0, [], rfl, rfl, rfl, rfl, rfl, rfl, by simp, fun y q1 => by (repeat (first | rw [ad_ (by omega)] | rw [ag_ (by first | omega | (simp only [ls_, la_, lc_, ln_]; omega))])), by (repeat (first | rw [ad_ (by omega)] | rw [ag_ (by first | omega | (simp only [ls_, la_, lc_, ln_]; omega))])); exact aG_ rfl, by rw [ag_ (by simp), aD_ (by simp)]; simp, by (repeat (first | rw [ad_ (by omega)] | rw [ag_ (by first | omega | (simp only [ls_, la_, lc_, ln_]; omega))])); exact cA_ rfl, aG_ (by simp), List.Sublist.refl _, rfl, rfl, Nat.zero_le _⟩
 rintro J hJ n t h ⟨i, em, t1, t4, t8, t9, t10, t11, hle, hkp, ob, oo, og, oa, hsub, hdat, rfl, hi'⟩
 have hra' := (hkp la (by omega)).trans hra
 have o1' := (hkp (h0.length + 1) (by omega)).trans o1
 have hel : em.length ≤ i := by have := hsub.length_le; rw [length_take] at this; omega
 have hol := nv_ x k i
 by_cases hlt : i < x.Asks.length
 ·have hit : i < ta.length := by omega
  obtain ⟨_, _, hid⟩ := jT_ k1 hlt
  obtain ⟨kk, htree⟩ := k1.asks.tree
  have ht2 := htree ta[i] (getElem_mem hit)
  rw [hid] at ht2
  obtain ⟨c4, e4, hc4, _⟩ := g4_ ht2
  have hc4' := hc4
  simp only [AV.cell, Value.oneCell'] at hc4'
  have htk : ta.take (i + 1) = ta.take i ++ [ta[i]] := take_succ_eq_append_getElem hit
  have hoat := l1_ (k := k) hlt
  simp (disch := (first | omega | (simp only [ls_, la_, lc_, ln_]; first | done | omega))) only [go_sem, reduceEqDiff, ↓reduceIte, t1, t8, t11, ob, hra', hit, e4, Nat.zero_add]
  refine aa_.call (b4_ _ _ _ _) ?_
  cases hj : dU_ k x.Asks[i]
  ·have hj' : bh_ x.Asks[i].Until 1 k = false := hj
   rw [hj] at hoat
   simp only [Bool.false_eq_true, if_false] at hoat
   simp (disch := (first | omega | (simp only [ls_, la_, lc_, ln_]; first | done | omega))) only [ad_, ag_, aG_, go_sem, reduceEqDiff, Nat.reduceAdd, reduceLeDiff, ↓reduceIte, t8, t9, t11, ob, oo, oa, hra', hit, e4, hc4', hj', aU_, Nat.zero_add]
   repeat (refine And.intro (by first | omega | (exact strs_cellv _) | assumption | (simp; done)) ?_)
   refine ⟨x.Asks.length - (i + 1), by omega, hJ _ _ _ ⟨i + 1, em ++ [ta[i]], by simp [upd, t1], by simp [upd, t4], by simp [upd, t8], by simp [upd, t9], by simp [upd, t10, hoat], by simp [upd], by simp; omega, fun y q1 => by (repeat (first | rw [ad_ (by omega)] | rw [ag_ (by first | omega | (simp only [ls_, la_, lc_, ln_]; omega))])); exact hkp y q1, by (repeat (first | rw [ad_ (by omega)] | rw [ag_ (by first | omega | (simp only [ls_, la_, lc_, ln_]; omega))])); exact ob, ?_, by (repeat (first | rw [ad_ (by omega)] | rw [ag_ (by first | omega | (simp only [ls_, la_, lc_, ln_]; omega))])); rw [hoat]; exact og, ?_, by rw [htk]; exact List.Sublist.append hsub (List.Sublist.refl _), by rw [take_succ_eq_append_getElem hlt, filter_append, map_append, hdat]; simp [hj, hid], rfl, by omega⟩⟩
   ·rw [aD_ (by simp; omega)]; simp
   ·rw [ad_ (by omega), aD_ (by simp; omega)]; simp [e4]
  ·have hj' : bh_ x.Asks[i].Until 1 k = true := hj
   rw [hj] at hoat
   simp only [if_true] at hoat
   simp (disch := (first | omega | (simp only [ls_, la_, lc_, ln_]; first | done | omega))) only [ag_, aG_, go_sem, reduceEqDiff, reduceLeDiff, ↓reduceIte, t8, t10, t11, ob, og, hra', hit, e4, hj', bz_, aU_, Nat.zero_add]
   repeat (refine And.intro (by first | omega | (exact strs_cellv _) | assumption | (simp; done)) ?_)
   refine ⟨x.Asks.length - (i + 1), by omega, hJ _ _ _ ⟨i + 1, em, by simp [upd, t1], by simp [upd, t4], by simp [upd, t8], by simp [upd, t9], by simp [upd, hoat], by simp [upd], by simp; omega, fun y q1 => by (repeat (first | rw [ad_ (by omega)] | rw [ag_ (by first | omega | (simp only [ls_, la_, lc_, ln_]; omega))])); exact hkp y q1, by (repeat (first | rw [ad_ (by omega)] | rw [ag_ (by first | omega | (simp only [ls_, la_, lc_, ln_]; omega))])); exact ob, by (repeat (first | rw [ad_ (by omega)] | rw [ag_ (by first | omega | (simp only [ls_, la_, lc_, ln_]; omega))])); exact oo, ?_, by (repeat (first | rw [ad_ (by omega)] | rw [ag_ (by first | omega | (simp only [ls_, la_, lc_, ln_]; omega))])); exact oa, by rw [htk]; exact hsub.trans (sublist_append_left _ _), by rw [take_succ_eq_append_getElem hlt, filter_append, map_append, hdat]; simp [hj], rfl, by omega⟩⟩
   rw [aD_ (by simp; omega), hoat]
 have e : i = x.Asks.length := by omega
 subst e
 rw [take_length] at hdat
 have hall : e5_ x k x.Asks.length = f9_ x k := by rw [e5_, take_length]; rfl
 rw [hall] at og t10
 have hfin2 : ta.length = x.Asks.length → ((x.Asks.length : Int) < (ta.length : Int)) = False := fun e => eq_false (by omega)
 simp (disch := (first | omega | (simp only [ls_, la_, lc_, ln_]; first | done | omega))) only [go_sem, reduceEqDiff, Nat.reduceAdd, ↓reduceIte, t8, t9, t11, ob, oo, hra', hfin2]
 have hs2 : em.Sublist ta := hsub.trans (take_sublist _ _)
 obtain ⟨p3, p4⟩ := bb_.pick k1.asks hs2 oa (fun y hy _ => hkp y (low y (.inr hy)).2) (by omega) (by omega)
 have kh := bb_.keep k1.held (H' := h) (fun y hy => hkp y (low y (.inl hy)).2) (by omega)
 have kK : KV h0.length h (gK_ x k) (.own lh th.length) (.own (H1.length + 3) em.length) (aF_ lh th ++ aF_ (H1.length + 3) em) := by
  refine ⟨_, th.length, th, _, em.length, em, ⟨.inr ⟨rfl, rfl⟩, .inr ⟨rfl, rfl⟩, bb_.down kh (by simp), bb_.down p3 (by simp), k1.hd, by rw [take_length]; exact hdat, fun y hy hy2 => ?_⟩, rfl⟩
  rcases p4 y hy2 with w | w
  ·exact k1.apart y hy w
  ·have := low y (.inl hy); omega
 have hFl : ∀ y ∈ aF_ lh th ++ aF_ (H1.length + 3) em, h0.length + 2 ≤ y ∧ (y < H1.length ∨ y = H1.length + 3) := fun y hy => by
  rcases mem_append.1 hy with z | z
  ·have := low y (.inl z); omega
  ·rcases p4 y z with w | w
   ·have := low y (.inr w); omega
   ·omega
 refine j5_ kK (jM_ hI k) (fun H2 a2 b2 F2 J2 m2 K2 s2 hJ1 hJ2 hJ3 => ?_)
 have l2 := m2.len
 have w1 := m2.at o1'
 have wg := m2.at og
 have c2 := K2.cells
 have ca := c2.1
 have cb := c2.2
 have ca2 := ca
 have cb2 := cb
 simp only [AV.cell, Value.oneCell'] at ca2 cb2
 simp (disch := (first | omega | (simp only [ls_, la_, lc_, ln_]; first | done | omega))) only [aD_, ag_, aG_, go_sem, reduceEqDiff, Nat.reduceAdd, ↓reduceIte, t4, t10, w1, ca2, cb2, eq_]
 have hF2 : ∀ y ∈ F2, (h0.length + 2 ≤ y ∧ (y < H1.length ∨ y = H1.length + 3)) ∨ h.length ≤ y := fun y hy => (s2 y hy).imp (hFl y) id
 have hlow := K2.low
 obtain ⟨lh2, mh2, th2, la2, ma2, ta2, kl2, rfl⟩ := K2
 have hJl := (List.getElem?_eq_some_iff.1 hJ3).1
 obtain ⟨H3, e3⟩ : ∃ H3, H3 = (H2 ++ [(⟨.ty 32, 2, [[a2, b2]]⟩ : Row)]).set (h0.length + 1) ⟨.ty 32, 2, [[a2, b2]]⟩ := ⟨_, rfl⟩
 rw [← e3]
 have k3 : ∀ y, y < H2.length → y ≠ h0.length + 1 → H3[y]? = H2[y]? := fun y q1 q2 => by rw [e3, ad_ (Ne.symm q2), ag_ q1]
 have l3 : H3.length = H2.length + 1 := by rw [e3]; simp
 refine ⟨⟨⟨by omega, fun y hy => ?_⟩, ?_⟩, a2, b2, _, _, ca, cb, _, rfl⟩
 ·rw [k3 y (by omega) (by omega), m2.kept y (by omega), hkp y (by omega)]; exact mh1.kept y hy
 ·exact (xy_ (kl2.keep (H' := H3) (fun y hy => k3 y (hlow y (mem_append_left _ hy)).2 (by have := hF2 y (mem_append_left _ hy); omega)) (fun y hy => k3 y (hlow y (mem_append_right _ hy)).2 (by have := hF2 y (mem_append_right _ hy); omega)) (by omega)) (J := H1.length + 2) (J2 := J2) (E := .ty 2) (E2 := .ty 2) (by rw [k3 _ (by omega) (by omega)]; exact wg) (by rw [k3 J2 hJl (by omega)]; exact hJ3) (fun z => by have := hF2 _ z; omega) hJ2 (by omega) (by omega) (by omega) 0).widen (Nat.le_refl _) (Nat.le_refl _)
end Go.Proofs.YtodgohgdnmifaaaGreatDoor
