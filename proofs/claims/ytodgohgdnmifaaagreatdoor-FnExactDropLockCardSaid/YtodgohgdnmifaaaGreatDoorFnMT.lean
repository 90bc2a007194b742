/-
 Contracts of functions. Conditions: as each theorem says.
-/
import Derived.Test.YtodgohgdnmifaaaGreatDoorFnMP
namespace Go.Proofs.YtodgohgdnmifaaaGreatDoor
open Nat (reduceEqDiff reduceLeDiff)
open List
open Go.AW
set_option linter.unusedVariables false
set_option linter.unusedSimpArgs false
set_option maxRecDepth 4000
theorem ut_ {P : Program} {f : FuncId} {a b : AV} {l m : Nat} {ts : List Tr} {rest : List AV} {h : List Row} {K : AV → List Row → Prop} (ha : Sl a l m ts) (hc : callSem P f (.agg [.sub l ts.length 0 m, b] :: rest) h K) : callSem P f (.agg [a, b] :: rest) h K := by
 rcases ha with rfl | ⟨rfl, rfl⟩
 ·exact hc
 intro S w vals hm hgl hr
 refine hc S w vals hm hgl ?_
 simp only [ai_] at hr ⊢
 obtain ⟨v, r, hv, h1, h2⟩ := hr
 refine ⟨v, r, hv, ?_, h2⟩
 have h3 : ∃ vs, v = .agg vs ∧ ai_ S [.own l ts.length, b] vs.toList := by simpa only [Rep] using h1
 obtain ⟨vs, e, h4⟩ := h3
 have h5 : ∃ v1 r1, vs.toList = v1 :: r1 ∧ Rep S (.own l ts.length) v1 ∧ ai_ S [b] r1 := h4
 obtain ⟨v1, r1, h6, h7, h8⟩ := h5
 have h9 : ai_ S [.sub l ts.length 0 ts.length, b] vs.toList := ⟨v1, r1, h6, h7.own_sub, h8⟩
 show Rep S (.agg [.sub l ts.length 0 ts.length, b]) v
 unfold Rep
 exact ⟨vs, e, h9⟩
theorem sX_ {hs : List ac_} (hp : hs.Pairwise (fun a b => aS_ a b = true)) {j : Int} {n : ByteArray} {s : List ByteArray} (h : bt_ hs j n s = true) : hs.map (cU_ j n s) = hs.modify (aD_ hs j n s) (ep_ 1) := by
 have := lw_ hp j n s
 rw [h, fF_, ea_, if_pos h] at this
 exact this
theorem pb_ {hs : List ac_} {j : Int} {n : ByteArray} {s : List ByteArray} (h : bt_ hs j n s = false) : ∀ g ∈ hs, cU_ j n s g = g := fun g hg => by
 have : cs_ j n s g = false := by
  cases z : cs_ j n s g with
  | false => rfl
  | true => have := any_eq_true.2 ⟨g, hg, z⟩; unfold bt_ at h; rw [h] at this; cases this
 rw [cU_, if_neg (by rw [this]; simp)]
theorem sN_ {lo : Nat} {H : List Row} {x : ab_} {a b : AV} {lh mh : Nat} {th : List Tr} {la ma : Nat} {ta : List Tr} (k : KL lo H x a b lh mh th la ma ta) (hl : bO_ x) (j : Int) (n : ByteArray) (s : List ByteArray) :
 ∃ (thb : List Tr) (Hh : List Row), Hh.length = H.length + 1 ∧ (∀ y, y < H.length → y ≠ lh → Hh[y]? = H[y]?) ∧ bv_ lo Hh 74 4 lh mh thb ∧ aI_ lh thb = aI_ lh th ∧ thb.length = th.length ∧
  ∀ (i : Nat) (hi : i < x.Held.length) (ht : i < th.length) (htb : i < thb.length), thb[i].d = ac_.cells (cU_ j n s x.Held[i]) ∧ ∃ c4 q f, c4.cell = true ∧ Own H q c4 (.list 0 1 (x.Held[i].Subs.map at_)) f ∧ th[i].c = [.val (.int .i64 x.Held[i].Job), .val (.int .i64 x.Held[i].Count), .val (.string x.Held[i].Name), c4] ∧
   thb[i].c = [.val (.int .i64 x.Held[i].Job), .val (.int .i64 (cU_ j n s x.Held[i]).Count), .val (.string x.Held[i].Name), c4] := by
 have elem : ∀ (i : Nat) (hi : i < x.Held.length) (ht : i < th.length), th[i].d = ac_.cells x.Held[i] ∧ ∃ c4 q f, c4.cell = true ∧ Own H q c4 (.list 0 1 (x.Held[i].Subs.map at_)) f ∧ th[i].c = [.val (.int .i64 x.Held[i].Job), .val (.int .i64 x.Held[i].Count), .val (.string x.Held[i].Name), c4] := fun i hi ht => by
  obtain ⟨_, _, hd⟩ := f0_ k hi
  obtain ⟨q, hq⟩ := k.held.tree
  have ho := hq _ (getElem_mem ht)
  rw [hd] at ho
  obtain ⟨c4, e, hcell, ho4⟩ := fp_ ho
  exact ⟨hd, c4, q, _, hcell, ho4, e⟩
 cases hk : bt_ x.Held j n s
 ·refine ⟨th, H ++ [⟨.ty 32, 2, [[a, b]]⟩], by simp, fun y q _ => aj_ q, k.held.more (aL_.app _ _), rfl, rfl, fun i hi ht _ => ?_⟩
  obtain ⟨h1, c4, q, f, h2, h3, h4⟩ := elem i hi ht
  rw [pb_ hk _ (getElem_mem hi)]
  exact ⟨h1, c4, q, f, h2, h3, h4, h4⟩
 ·obtain ⟨hp, hf⟩ := fe_ hl.sorted hk
  have low1 : H.length ∉ aI_ lh th := fun z => by have := (k.held.lows _ z).2; omega
  have low2 : H.length ∉ aI_ la ta := fun z => by have := (k.asks.lows _ z).2; omega
  have hlo : lo ≤ H.length := by have := (k.held.lows lh mem_cons_self); omega
  have B : KB lo (H ++ [⟨.ty 32, 2, [[a, b]]⟩]) H.length x a b lh mh th la ma ta := ⟨aK_ rfl, k.more (aL_.app _ _), low1, low2, hlo⟩
  obtain ⟨hm, htp, _⟩ := f0_ k hp
  obtain ⟨hd0, c0, q0, f0, w1, w2, w3⟩ := elem _ hp htp
  obtain ⟨th', e1, e2, e3, B'⟩ := B.bumped hp htp 1 w3 hd0
  have hll := k.held.lt
  refine ⟨th', _, by simp, fun y q1 q2 => by rw [af_ (Ne.symm q2), aj_ q1], B'.kl.held, e3, e1, fun i hi ht htb => ?_⟩
  obtain ⟨h1, c4, q, f, h2, h3, h4⟩ := elem i hi ht
  have hbm := sX_ hl.sorted hk
  obtain ⟨_, _, hd'⟩ := f0_ B'.kl (p := i) (by simpa using hi)
  have hg : (x.Held.modify (aD_ x.Held j n s) (ep_ 1))[i]'(by simpa using hi) = cU_ j n s x.Held[i] := by
   have := congrArg (fun z => z[i]?) hbm
   simp only [getElem?_map] at this
   rw [getElem?_eq_getElem hi, getElem?_eq_getElem (by simpa using hi)] at this
   simpa using this.symm
  refine ⟨by rw [hd']; exact congrArg _ hg, c4, q, f, h2, h3, h4, ?_⟩
  have hc : th'[i].c = ((th.map Tr.c).set (aD_ x.Held j n s) [.val (.int .i64 x.Held[aD_ x.Held j n s].Job), .val (.int .i64 (x.Held[aD_ x.Held j n s].Count + 1)), .val (.string x.Held[aD_ x.Held j n s].Name), c0])[i]'(by simpa using ht) := by
   have := congrArg (fun z => z[i]?) e2
   simp only [getElem?_map] at this
   rw [getElem?_eq_getElem htb, getElem?_eq_getElem (by simpa using ht)] at this
   simpa using this
  rw [hc, getElem_set]
  by_cases ei : aD_ x.Held j n s = i
  ·rw [if_pos ei]
   subst ei
   have hkk : cs_ j n s x.Held[aD_ x.Held j n s] = true := (gG_ hl.sorted hk).2
   rw [w3] at h4
   simp only [List.cons.injEq, true_and, and_true] at h4
   subst h4
   rw [cU_, if_pos hkk]; rfl
  ·rw [if_neg ei, getElem_map, h4, cU_, if_neg (fun z => ei (hg_ hl.sorted hi z).symm)]
theorem p8_ (j : Int) (n : ByteArray) (s : List ByteArray) (a : ac_) : aS_ ⟨j, 0, n, s⟩ a = (decide (j < a.Job) || (decide (a.Job = j) && c6_ n.data.toList (bss s) a.Name.data.toList (bss a.Subs))) := by
 have h := gL_ ⟨j, 0, n, s⟩ a
 rw [Bool.eq_iff_iff, h]
 simp only [Bool.or_eq_true, Bool.and_eq_true, decide_eq_true_eq]
 constructor
 ·rintro (q | ⟨q1, q2⟩)
  ·exact .inl q
  ·exact .inr ⟨q1.symm, q2⟩
 ·rintro (q | ⟨q1, q2⟩)
  ·exact .inl q
  ·exact .inr ⟨q1.symm, q2⟩
theorem nQ_ {x : ab_} (hl : bO_ x) (j : Int) (n : ByteArray) (s : List ByteArray) : (bt_ x.Held j n s = false ∧ iX_ x j n s = -1) ∨ (bt_ x.Held j n s = true ∧ iX_ x j n s = (aD_ x.Held j n s : Int)) := by
 rcases hk_ (cs_ j n s) x.Held 0 with ⟨h1, h2⟩ | ⟨i, hi, h1, h2⟩
 ·refine .inl ⟨?_, h1⟩
  cases q : bt_ x.Held j n s with
  | false => rfl
  | true => obtain ⟨_, hf⟩ := fe_ hl.sorted q; rw [h2] at hf; cases hf
 ·have hk := find?_some h2
  refine .inr ⟨any_eq_true.2 ⟨_, getElem_mem hi, hk⟩, ?_⟩
  rw [← hg_ hl.sorted hi hk]
  exact h1.trans (by simp)
def c93 : LC :=
 .q [.o [.bx 4 32 0, .s 8 (.alloc 32 z0z)], .o [.s 15 (.buildSlice 74 4 (.agg #[.int .i64 0, .int .i64 0, .string ⟨#[]⟩, .slice none 0 0]) 0 []), .m 9 15], .o [.m 16 1, .m 17 2, .m 18 3, .c1 19 90 18, .s 20 (.build (.agg
 #[.int .i64 0, .int .i64 0, .string ⟨#[]⟩, .slice none 0 0]) [(0, 1), (1, 1), (2, 1), (3, 1)] [(0, .tmp 16), (1, .const (.int .i64 1)), (2, .tmp 17), (3, .tmp 19)]), .s 10 (.alloc 74 (.agg #[.int .i64 0, .int .i64 0,
 .string ⟨#[]⟩, .slice none 0 0])), .st 4 10 20], .o [.ld 21 2 4, .m 22 1, .m 23 2, .m 24 3, .s 25 (.call 54 [.tmp 21, .tmp 22, .tmp 23, .tmp 24]), .m 11 25], .o [.m 26 11, .bk 27 .geq false 26 0, .m 12 27], .q [.o [.ki
 13 0], .block 0 (.loop (.q [.q [.o [.m 28 13, .fa 29 0 4, .ln 30 29, .ll 31 30, .bb 32 .lss false 28 31], .k 32 .skip (.exit 0)], .block 1 (.q [.o [.fa 35 0 4, .ln 36 35, .m 37 13, .ia 38 4 36 37, .ld 39 4 38, .s 14
 (.alloc 74 (.agg #[.int .i64 0, .int .i64 0, .string ⟨#[]⟩, .slice none 0 0])), .st 4 14 39], .q [.o [.m 40 13, .m 41 11, .bb 42 .eql false 40 41], .k 42 (.o [.fa 43 1 14, .ln 44 43, .bk 45 .add false 44 1, .fa 46 1 14,
 .st 1 46 45]) .skip], .q [.o [.m 47 12, .nt 48 47, .m 49 48, .gf 50 49 true 0 14, .gn 51 49 true 50, .gm 52 49 true 1, .g 53 49 true (.bin .gtr false (.tmp 51) (.tmp 52)), .gm 54 49 true 53, .gf 55 54 false 0 14, .gn 56
 54 false 55, .gm 57 54 false 1, .g 58 54 false (.bin .eql false (.tmp 56) (.tmp 57)), .gm 59 54 false 58, .gm 60 59 true 2, .gm 61 59 true 3, .gf 62 59 true 2 14, .gn 63 59 true 62, .gf 64 59 true 3 14, .gn 65 59 true
 64, .g 66 59 true (.call 71 [.tmp 60, .tmp 61, .tmp 63, .tmp 65]), .g 67 54 false (.pick (.tmp 59) (.tmp 66) (.const (.bool false))), .g 68 49 true (.pick (.tmp 54) (.const (.bool true)) (.tmp 67)), .pf 69 49 68], .k 69
 (.q [.o [.m 70 9, .ld 71 4 10, .s 72 (.buildSlice 74 4 (.agg #[.int .i64 0, .int .i64 0, .string ⟨#[]⟩, .slice none 0 0]) 1 [(0, .tmp 71)]), .ap 73 74 4 56 70 72, .m 9 73], .o [.t 12]]) .skip], .o [.m 74 9, .ld 75 4 14,
 .s 76 (.buildSlice 74 4 (.agg #[.int .i64 0, .int .i64 0, .string ⟨#[]⟩, .slice none 0 0]) 1 [(0, .tmp 75)]), .ap 77 74 4 56 74 76, .m 9 77]]), .o [.m 33 13, .bk 34 .add false 33 1, .m 13 34]]))], .q [.o [.m 78 12, .nt
 79 78], .k 79 (.o [.m 80 9, .ld 81 4 10, .s 82 (.buildSlice 74 4 (.agg #[.int .i64 0, .int .i64 0, .string ⟨#[]⟩, .slice none 0 0]) 1 [(0, .tmp 81)]), .ap 83 74 4 56 80 82, .m 9 83]) .skip], .o [.m 84 9, .fa 85 0 4, .st
 1 85 84], .o [.ld 86 2 4, .st 2 8 86], .ret]
def xI_ : LF := ⟨4, 87, c93, [.cell 8 (some 2)]⟩
theorem x4_ : aA_ Tryz.prog Tryz.f93 xI_ := ak_
theorem kC_ {lo : Nat} {H : List Row} {x : ab_} {a b : AV} {F : List Nat} (k : KV lo H x a b F) (hl : bO_ x) (j : Int) {n : ByteArray} {s : List ByteArray} {sa : AV} (ht : b5_ n s = true) (hsa : ∀ H', aL_ H H' → bo_ H' sa (.list 0 1 (s.map at_))) {K : AV → List Row → Prop}
 (hk : ∀ H' a' F', aL_ H H' → KV lo H' ⟨ea_ x.Held j n s, x.Asks⟩ a' b F' → (∀ y ∈ F', y ∈ F ∨ H.length ≤ y) → K (.agg [a', b]) H') : callSem Tryz.prog 93 [.agg [a, b], .val (.int .i64 j), .val (.string n), sa] H K := by
 obtain ⟨lh, mh, th, la, ma, ta, k0, hF⟩ := k
 refine ut_ k0.ha ?_
 have k : KL lo H x (.sub lh th.length 0 mh) b lh mh th la ma ta := ⟨.inl rfl, k0.hb, k0.held, k0.asks, k0.hd, k0.ad, k0.apart⟩
 clear k0
 refine aZ_ mixed Tryz.func93 x4_ (bx_ rfl ?_)
 have hmh := k.mh_eq
 have hmt := k.held.le
 have hlen := hl.len
 have hr := k.held.row
 have hlt0 := k.held.lt
 have cb := k.hb.cell
 simp only [AV.cell, Value.oneCell'] at cb
 have hlow := (show KV lo H x _ b F from ⟨lh, mh, th, la, ma, ta, k, hF⟩).low
 obtain ⟨thb, Hh, b1, b2, b3, b4, b5, b6⟩ := sN_ k hl j n s
 have hat : ∀ H', aL_ H H' → aa_ Tryz.prog 54 [.agg [.sub lh th.length 0 mh, b], .val (.int .i64 j), .val (.string n), sa] H' (.val (.int .i64 (iX_ x j n s))) := fun H' m => aa_.anyR rfl (fun h => gt_ x j n s hl.big h) (aO_.cons (k.more m).arg (aO_.cons (bo_.same rfl) (aO_.cons (bo_.same rfl) (aO_.cons (hsa H' m) aO_.nil))))
 have hk2 : ∀ (H' : List Row) (em ins : List Tr), aL_ H H' → H'[H.length + 2]? = some ⟨.ty 74, 4, em.map Tr.c⟩ → em.Perm (ins ++ thb.take mh) → (∀ t ∈ ins, t.c.length = 4 ∧ t.c.all AV.cell = true) → (∃ q, ∀ t ∈ ins, au_ (Own H' q) t.c t.d t.f) → (ins.map Tr.f).flatten.Nodup → (∀ y ∈ (ins.map Tr.f).flatten, H.length + 3 ≤ y ∧ y < H'.length) → em.map Tr.d = (ea_ x.Held j n s).map ac_.cells → K (.agg [.own (H.length + 2) em.length, b]) H' := fun H' em ins m q1 q2 q3 q4 q5 q6 q7 => by
  have hl' := (List.getElem?_eq_some_iff.1 q1).1
  have hsub : ∀ y, y ∈ aI_ (H.length + 2) em → y ∈ aI_ lh th ∨ H.length ≤ y := fun y hy => by
   rcases mem_cons.1 hy with e | e
   ·exact .inr (by omega)
   ·have h1 := ((q2.map Tr.f).flatten).mem_iff.1 e
    rw [map_append, flatten_append] at h1
    rcases mem_append.1 h1 with e2 | e2
    ·exact .inr (by have := q6 y e2; omega)
    ·rw [← b4]
     exact .inl (mem_cons_of_mem _ ((eS_ ((take_sublist _ _).map Tr.f)).subset e2))
  have hflow : ∀ y ∈ aI_ lh thb, y < H.length := fun y hy => by rw [b4] at hy; exact (k.held.lows y hy).2
  refine hk H' _ (aI_ (H.length + 2) em ++ aI_ la ta) m ⟨H.length + 2, em.length, em, la, ma, ta, ?_, rfl⟩ (fun y hy => ?_)
  ·refine k.setHeld (.inr ⟨rfl, rfl⟩) (b3.renew (new := ins) q1 (Nat.le_refl _) q2 (take_sublist _ _) q3 q4 q5 (fun y hy => ?_) (fun y hy => ?_) (.inr (by omega)) (by have := m.len; omega)) (by rw [take_length]; exact q7) (fun y hy => hsub y hy) (fun y hy => m.kept y (k.asks.lows y hy).2) m.len
   ·have h1 := q6 y hy
    exact ⟨fun z => by have := hflow y z; omega, by omega, by have := hlow lh (by rw [hF]; exact mem_append_left _ mem_cons_self); omega, h1.2⟩
   ·have h1 := hflow y (mem_cons_of_mem _ hy)
    have h2 : y ≠ lh := fun e => (nodup_cons.1 b3.one).1 (e ▸ hy)
    rw [m.kept y h1, b2 y h1 h2]
  ·rw [hF]
   rcases mem_append.1 hy with e | e
   ·exact (hsub y e).imp (fun z => mem_append_left _ z) id
   ·exact .inl (mem_append_right _ e)
 simp (disch := (first | omega | (simp only [ls_, la_, lc_, ln_]; first | done | omega))) only [go_sem, reduceEqDiff, Nat.reduceAdd, ↓reduceIte, xI_, c93, cb]
 refine jk_ (eg_ s (cf_ ht).2.2) (aO_.cons (hsa _ (aL_.app _ _)) aO_.nil) (fun av H1 m1 F1 q1 => ?_)
 obtain ⟨ls, rfl⟩ := q1
 have l1 := m1.len
 simp only [la_, lc_, ln_] at l1
 have p0 := m1.at (i := H.length) (aK_ rfl)
 have p1 := m1.at (i := H.length + 1) (bG_ rfl)
 have p2 := m1.at (i := H.length + 2) (cP_ rfl)
 have mH1 : aL_ H H1 := (aL_.app _ _).trans m1
 simp (disch := (first | omega | (simp only [ls_, la_, lc_, ln_]; first | done | omega))) only [aj_, aK_, go_sem, reduceEqDiff, Nat.reduceAdd, reduceLeDiff, ↓reduceIte, p0, c4_, Option.map_some]
 refine aa_.call (hat _ (mH1.add _)) ?_
 obtain ⟨Hx, hHx⟩ : ∃ Hx, Hx = H1 ++ [⟨.ty 74, 4, [[.val (.int .i64 j), .val (.int .i64 1), .val (.string n), .own ls s.length]]⟩] := ⟨_, rfl⟩
 rw [← hHx]
 have lx : Hx.length = H1.length + 1 := by rw [hHx]; simp
 have mHx : aL_ H Hx := by rw [hHx]; exact mH1.add _
 have hx : ∀ y, y < H1.length → Hx[y]? = H1[y]? := fun y hy => by rw [hHx]; exact aj_ hy
 have x0 := (hx _ (by omega)).trans p0
 have x1 := (hx _ (by omega)).trans p1
 have x2 := (hx _ (by omega)).trans p2
 have xF : Hx[H1.length]? = some ⟨.ty 74, 4, [[.val (.int .i64 j), .val (.int .i64 1), .val (.string n), .own ls s.length]]⟩ := by rw [hHx]; exact aK_ rfl
 have xr : Hx[lh]? = _ := (mHx.kept lh hlt0).trans hr
 obtain ⟨nq, nf, nn1, nn2, nn3⟩ := gT_ (v1 := .int .i64 j) (v2 := .int .i64 1) (v3 := .string n) F1 (by simp; omega)
 simp only [la_, lc_, ln_] at nn3
 obtain ⟨nt, hnt⟩ : ∃ nt : Tr, nt = ⟨[.val (.int .i64 j), .val (.int .i64 1), .val (.string n), .own ls s.length], ac_.cells ⟨j, 1, n, s⟩, nf⟩ := ⟨_, rfl⟩
 have hntc : nt.c = [.val (.int .i64 j), .val (.int .i64 1), .val (.string n), .own ls s.length] := by rw [hnt]
 have hntd : nt.d = ac_.cells ⟨j, 1, n, s⟩ := by rw [hnt]
 have hntf : nt.f = nf := by rw [hnt]
 have hneg1 : ((-1 : Int) < 0) = True := eq_true (by omega)
 obtain ⟨d0, hd0, hge⟩ : ∃ d0 : Bool, bt_ x.Held j n s = d0 ∧ decide (0 ≤ iX_ x j n s) = d0 := by
  rcases nQ_ hl j n s with ⟨h1, h2⟩ | ⟨h1, h2⟩
  ·exact ⟨false, h1, by rw [h2]; rfl⟩
  ·exact ⟨true, h1, by rw [h2]; exact decide_eq_true (by omega)⟩
 simp (disch := (first | omega | (simp only [ls_, la_, lc_, ln_]; first | done | omega))) only [go_sem, ↓reduceIte, hge]
 refine aG_ (fun m t h => ∃ (i : Nat) (em ins : List Tr) (d : Bool), t 1 = .val (.int .i64 j) ∧ t 2 = .val (.string n) ∧ t 3 = sa ∧ t 4 = .ptr H.length 1 0 0 ∧ t 8 = .ptr (H.length + 1) 1 0 0 ∧ t 9 = .own (H.length + 2) em.length ∧ t 10 = .ptr H1.length 1 0 0 ∧ t 11 = .val (.int .i64 (iX_ x j n s)) ∧ t 12 = .val (.bool d) ∧ t 13 = .val (.int .i64 i) ∧
  Hx.length ≤ h.length ∧ (∀ y, y < Hx.length → y ≠ H.length + 2 → h[y]? = Hx[y]?) ∧ h[H.length + 2]? = some ⟨.ty 74, 4, em.map Tr.c⟩ ∧ em.Perm (ins ++ thb.take i) ∧ (ins = [] ∨ ins = [nt]) ∧ (d = false → ins = []) ∧ (bt_ x.Held j n s = true → d = true) ∧ em.map Tr.d ++ (cp_ j n s (x.Held.drop i) d).map ac_.cells = (ea_ x.Held j n s).map ac_.cells ∧ em.length ≤ i + 1 ∧ m = x.Held.length - i ∧ i ≤ x.Held.length) x.Held.length ?_ ?_
 ·refine ⟨0, [], [], d0, rfl, rfl, rfl, by simp [upd], by simp [upd], by simp [upd], by simp [upd], by simp [upd], by simp [upd], by simp [upd], Nat.le_refl _, fun _ _ _ => rfl, x2, List.Perm.refl _, .inl rfl, fun _ => rfl, fun z => by rw [← hd0, z], ?_, by simp, rfl, Nat.zero_le _⟩
  rw [map_nil, nil_append, drop_zero, ← hd0, lw_ hl.sorted]
 rintro J hJ m t h ⟨i, em, ins, d, t1, t2, t3, t4, t8, t9, t10, t11, t12, t13, hle, hkp, oG, hperm, hins, hins2, hkd, hdat, hlenem, rfl, hi'⟩
 have o0 := (hkp H.length (by omega) (by omega)).trans x0
 have o1 := (hkp (H.length + 1) (by omega) (by omega)).trans x1
 have oF := (hkp H1.length (by omega) (by omega)).trans xF
 have hrh := (hkp lh (by omega) (by omega)).trans xr
 have mh0 : aL_ H h := ⟨by omega, fun y hy => (hkp y (by omega) (by omega)).trans (mHx.kept y hy)⟩
 by_cases hlt : i < x.Held.length
 ·have him : i < mh := by omega
  have hit : i < th.length := by omega
  have hitb : i < thb.length := by omega
  obtain ⟨hbd, c4, cq, cf, hc0, ho4, hc4, hbc⟩ := b6 i hlt hit hitb
  have hcell := hc0
  simp only [AV.cell, Value.oneCell'] at hcell
  have hcnt := hl.held _ (getElem_mem hlt)
  simp only [cH_, bn_, Bool.and_eq_true, decide_eq_true_eq] at hcnt
  have hless : ∀ r : Row, aa_ Tryz.prog 71 [.val (.string n), sa, .val (.string x.Held[i].Name), c4] (h ++ [r]) (.val (.bool (c6_ n.data.toList (bss s) x.Held[i].Name.data.toList (bss x.Held[i].Subs)))) := fun r => aa_.anyR rfl (fun h => fw_ n s x.Held[i].Name x.Held[i].Subs (cf_ ht).2.1 (ac_.sz_Subs (bU_ (ab_.sz_Held hl.big) (getElem_mem hlt))) h) (aO_.cons (bo_.same rfl) (aO_.cons (hsa _ (mh0.add _)) (aO_.cons (bo_.same rfl) (aO_.cons (bb_.any (.inr ⟨_, _, ho4.keep fun y hy => (mh0.add [r]).kept y (ho4.lt y hy)⟩)) aO_.nil))))
  rcases nQ_ hl j n s with ⟨k1, k2⟩ | ⟨k1, k2⟩
  ·have hb0 := pb_ k1 _ (getElem_mem hlt)
   rw [hb0] at hbc hbd
   rw [k2] at t11
   have hne : ((i : Int) = -1) = False := eq_false (by omega)
   have hkk := p8_ j n s x.Held[i]
   cases d with
   | true =>
    have hstep : (!true && aS_ ⟨j, 0, n, s⟩ x.Held[i]) = false := rfl
    simp (disch := (first | omega | (simp only [ls_, la_, lc_, ln_]; first | done | omega))) only [aj_, aK_, bG_, go_sem, reduceEqDiff, Nat.reduceAdd, reduceLeDiff, Int.reduceNeg, ↓reduceIte, hne, t4, t9, t11, t12, t13, o0, hrh, oG, him, hc4, hcell, aX_, Int.zero_add, Nat.zero_add, Nat.sub_zero]
    repeat (refine And.intro (by first | omega | (exact strs_cellv _) | assumption | (simp; done)) ?_)
    refine ⟨x.Held.length - (i + 1), by omega, hJ _ _ _ ⟨i + 1, em ++ [thb[i]], ins, true, by simp [upd, t1], by simp [upd, t2], by simp [upd, t3], by simp [upd, t4], by simp [upd, t8], by simp [upd], by simp [upd, t10], by simp [upd, t11, k2], by simp [upd, t12], by simp [upd], by simp; omega, fun y q1 q2 => ?_, ?_, by
     rw [take_succ_eq_append_getElem (by omega), ← append_assoc]
     exact List.Perm.append_right _ hperm, hins, (fun q => by cases q), (fun _ => rfl), ?_, by simp; omega, rfl, by omega⟩⟩
    ·(repeat (first | rw [af_ (by omega)] | rw [aj_ (by first | omega | (simp only [ls_, la_, lc_, ln_]; omega))])); exact hkp y q1 q2
    ·rw [aB_ (by simp; omega)]; simp only [map_append, map_cons, map_nil, hbc]
    ·rw [← hdat, drop_eq_getElem_cons hlt]
     simp only [cp_, hstep, map_append, map_cons, map_nil, append_assoc, cons_append, nil_append, hbd, hb0, Bool.false_eq_true, if_false]
   | false =>
    have hem0 : em.length = i := by
     have := hperm.length_eq
     rw [hins2 rfl, nil_append, length_take] at this
     omega
    by_cases c1 : j < x.Held[i].Job
    ·have hstep : (!false && aS_ ⟨j, 0, n, s⟩ x.Held[i]) = true := by rw [hkk, decide_eq_true c1]; rfl
     have c1' : (j < x.Held[i].Job) = True := eq_true c1
     simp (disch := (first | omega | (simp only [ls_, la_, lc_, ln_]; first | done | omega))) only [af_, aB_, aj_, aK_, bG_, ls_, go_sem, reduceEqDiff, Nat.reduceAdd, reduceLeDiff, Int.reduceNeg, ↓reduceIte, hne, c1', t1, t4, t9, t10, t11, t12, t13, o0, hrh, oF, oG, him, hc4, hcell, aX_, Int.zero_add, Nat.zero_add, Nat.sub_zero]
     repeat (refine And.intro (by first | omega | (exact strs_cellv _) | assumption | (simp; done)) ?_)
     refine ⟨x.Held.length - (i + 1), by omega, hJ _ _ _ ⟨i + 1, em ++ [nt] ++ [thb[i]], [nt], true, by simp [upd, t1], by simp [upd, t2], by simp [upd, t3], by simp [upd, t4], by simp [upd, t8], by simp [upd], by simp [upd, t10], by simp [upd, t11, k2], by simp [upd], by simp [upd], by simp; omega, fun y q1 q2 => ?_, ?_, by
     rw [take_succ_eq_append_getElem (by omega)]
     have e0 : ins = [] := hins2 rfl
     rw [e0, nil_append] at hperm
     have : (em ++ [nt] ++ [thb[i]]).Perm ([nt] ++ em ++ [thb[i]]) := List.Perm.append_right _ perm_append_comm
     refine this.trans ?_
     rw [append_assoc]
     exact List.Perm.append_left _ (List.Perm.append_right _ hperm), .inr rfl, (fun q => by cases q), (fun _ => rfl), ?_, by simp; omega, rfl, by omega⟩⟩
     ·(repeat (first | rw [af_ (by omega)] | rw [aj_ (by first | omega | (simp only [ls_, la_, lc_, ln_]; omega))])); exact hkp y q1 q2
     ·rw [aB_ (by simp; omega)]; simp only [map_append, map_cons, map_nil, append_assoc, cons_append, nil_append, hbc, hntc]
     ·rw [← hdat, drop_eq_getElem_cons hlt]
      simp only [cp_, hstep, map_append, map_cons, map_nil, append_assoc, cons_append, nil_append, hbd, hntd, hb0, if_true]
    have c1' : (j < x.Held[i].Job) = False := eq_false c1
    by_cases c2 : x.Held[i].Job = j
    ·have c2' : (x.Held[i].Job = j) = True := eq_true c2
     simp (disch := (first | omega | (simp only [ls_, la_, lc_, ln_]; first | done | omega))) only [aK_, go_sem, reduceEqDiff, Nat.reduceAdd, Int.reduceNeg, ↓reduceIte, hne, c1', c2', t1, t2, t3, t4, t11, t12, t13, o0, hrh, him, hc4, hcell, Int.zero_add, Nat.zero_add, Nat.sub_zero]
     refine aa_.call (hless _) ?_
     cases c3 : c6_ n.data.toList (bss s) x.Held[i].Name.data.toList (bss x.Held[i].Subs)
     ·have hstep : (!false && aS_ ⟨j, 0, n, s⟩ x.Held[i]) = false := by rw [hkk, decide_eq_false c1, c3]; simp
      simp (disch := (first | omega | (simp only [ls_, la_, lc_, ln_]; first | done | omega))) only [aj_, aK_, bG_, go_sem, reduceEqDiff, Nat.reduceAdd, reduceLeDiff, Int.reduceNeg, ↓reduceIte, t9, t13, oG, hcell, aX_, Nat.zero_add]
      repeat (refine And.intro (by first | omega | (exact strs_cellv _) | assumption | (simp; done)) ?_)
      refine ⟨x.Held.length - (i + 1), by omega, hJ _ _ _ ⟨i + 1, em ++ [thb[i]], ins, false, by simp [upd, t1], by simp [upd, t2], by simp [upd, t3], by simp [upd, t4], by simp [upd, t8], by simp [upd], by simp [upd, t10], by simp [upd, t11, k2], by simp [upd, t12], by simp [upd], by simp; omega, fun y q1 q2 => ?_, ?_, by
     rw [take_succ_eq_append_getElem (by omega), ← append_assoc]
     exact List.Perm.append_right _ hperm, hins, hins2, hkd, ?_, by simp; omega, rfl, by omega⟩⟩
      ·(repeat (first | rw [af_ (by omega)] | rw [aj_ (by first | omega | (simp only [ls_, la_, lc_, ln_]; omega))])); exact hkp y q1 q2
      ·rw [aB_ (by simp; omega)]; simp only [map_append, map_cons, map_nil, hbc]
      ·rw [← hdat, drop_eq_getElem_cons hlt]
       simp only [cp_, hstep, map_append, map_cons, map_nil, append_assoc, cons_append, nil_append, hbd, hb0, Bool.false_eq_true, if_false]
     ·have hstep : (!false && aS_ ⟨j, 0, n, s⟩ x.Held[i]) = true := by rw [hkk, decide_eq_true c2, c3]; simp
      simp (disch := (first | omega | (simp only [ls_, la_, lc_, ln_]; first | done | omega))) only [af_, aB_, aj_, aK_, bG_, ls_, go_sem, reduceEqDiff, Nat.reduceAdd, reduceLeDiff, Int.reduceNeg, ↓reduceIte, t9, t10, t13, oF, oG, hcell, aX_, Nat.zero_add]
      repeat (refine And.intro (by first | omega | (exact strs_cellv _) | assumption | (simp; done)) ?_)
      refine ⟨x.Held.length - (i + 1), by omega, hJ _ _ _ ⟨i + 1, em ++ [nt] ++ [thb[i]], [nt], true, by simp [upd, t1], by simp [upd, t2], by simp [upd, t3], by simp [upd, t4], by simp [upd, t8], by simp [upd], by simp [upd, t10], by simp [upd, t11, k2], by simp [upd], by simp [upd], by simp; omega, fun y q1 q2 => ?_, ?_, by
     rw [take_succ_eq_append_getElem (by omega)]
     have e0 : ins = [] := hins2 rfl
     rw [e0, nil_append] at hperm
     have : (em ++ [nt] ++ [thb[i]]).Perm ([nt] ++ em ++ [thb[i]]) := List.Perm.append_right _ perm_append_comm
     refine this.trans ?_
     rw [append_assoc]
     exact List.Perm.append_left _ (List.Perm.append_right _ hperm), .inr rfl, (fun q => by cases q), (fun _ => rfl), ?_, by simp; omega, rfl, by omega⟩⟩
      ·(repeat (first | rw [af_ (by omega)] | rw [aj_ (by first | omega | (simp only [ls_, la_, lc_, ln_]; omega))])); exact hkp y q1 q2
      ·rw [aB_ (by simp; omega)]; simp only [map_append, map_cons, map_nil, append_assoc, cons_append, nil_append, hbc, hntc]
      ·rw [← hdat, drop_eq_getElem_cons hlt]
       simp only [cp_, hstep, map_append, map_cons, map_nil, append_assoc, cons_append, nil_append, hbd, hntd, hb0, if_true]
    ·have c2' : (x.Held[i].Job = j) = False := eq_false c2
     have hstep : (!false && aS_ ⟨j, 0, n, s⟩ x.Held[i]) = false := by rw [hkk, decide_eq_false c1, decide_eq_false c2]; rfl
     simp (disch := (first | omega | (simp only [ls_, la_, lc_, ln_]; first | done | omega))) only [aj_, aK_, bG_, go_sem, reduceEqDiff, Nat.reduceAdd, reduceLeDiff, Int.reduceNeg, ↓reduceIte, hne, c1', c2', t1, t4, t9, t11, t12, t13, o0, hrh, oG, him, hc4, hcell, aX_, Int.zero_add, Nat.zero_add, Nat.sub_zero]
     repeat (refine And.intro (by first | omega | (exact strs_cellv _) | assumption | (simp; done)) ?_)
     refine ⟨x.Held.length - (i + 1), by omega, hJ _ _ _ ⟨i + 1, em ++ [thb[i]], ins, false, by simp [upd, t1], by simp [upd, t2], by simp [upd, t3], by simp [upd, t4], by simp [upd, t8], by simp [upd], by simp [upd, t10], by simp [upd, t11, k2], by simp [upd, t12], by simp [upd], by simp; omega, fun y q1 q2 => ?_, ?_, by
     rw [take_succ_eq_append_getElem (by omega), ← append_assoc]
     exact List.Perm.append_right _ hperm, hins, hins2, hkd, ?_, by simp; omega, rfl, by omega⟩⟩
     ·(repeat (first | rw [af_ (by omega)] | rw [aj_ (by first | omega | (simp only [ls_, la_, lc_, ln_]; omega))])); exact hkp y q1 q2
     ·rw [aB_ (by simp; omega)]; simp only [map_append, map_cons, map_nil, hbc]
     ·rw [← hdat, drop_eq_getElem_cons hlt]
      simp only [cp_, hstep, map_append, map_cons, map_nil, append_assoc, cons_append, nil_append, hbd, hb0, Bool.false_eq_true, if_false]
  ·have hdt : d = true := hkd k1
   subst hdt
   rw [k2] at t11
   have hstep : (!true && aS_ ⟨j, 0, n, s⟩ x.Held[i]) = false := rfl
   by_cases c0 : i = aD_ x.Held j n s
   ·have hne : ((i : Int) = (aD_ x.Held j n s : Int)) = True := eq_true (by omega)
    have hb1 : (cU_ j n s x.Held[i]).Count = x.Held[i].Count + 1 := by
     have : cs_ j n s x.Held[i] = true := by
      obtain ⟨hm0, hk0⟩ := gG_ hl.sorted k1
      subst c0; exact hk0
     rw [cU_, if_pos this]; rfl
    rw [hb1] at hbc
    simp (disch := (first | omega | (simp only [ls_, la_, lc_, ln_]; first | done | omega))) only [aj_, aK_, bG_, go_sem, reduceEqDiff, Nat.reduceAdd, reduceLeDiff, ↓reduceIte, hne, t4, t9, t11, t12, t13, o0, hrh, oG, him, hc4, hcell, aX_, Int.zero_add, Nat.zero_add, Nat.sub_zero]
    repeat (refine And.intro (by first | omega | (exact strs_cellv _) | assumption | (simp; done)) ?_)
    refine ⟨x.Held.length - (i + 1), by omega, hJ _ _ _ ⟨i + 1, em ++ [thb[i]], ins, true, by simp [upd, t1], by simp [upd, t2], by simp [upd, t3], by simp [upd, t4], by simp [upd, t8], by simp [upd], by simp [upd, t10], by simp [upd, t11, k2], by simp [upd, t12], by simp [upd], by simp; omega, fun y q1 q2 => ?_, ?_, by
     rw [take_succ_eq_append_getElem (by omega), ← append_assoc]
     exact List.Perm.append_right _ hperm, hins, (fun q => by cases q), (fun _ => rfl), ?_, by simp; omega, rfl, by omega⟩⟩
    ·(repeat (first | rw [af_ (by omega)] | rw [aj_ (by first | omega | (simp only [ls_, la_, lc_, ln_]; omega))])); exact hkp y q1 q2
    ·rw [aB_ (by simp; omega)]; simp only [map_append, map_cons, map_nil, hbc]
    ·rw [← hdat, drop_eq_getElem_cons hlt]
     simp only [cp_, hstep, map_append, map_cons, map_nil, append_assoc, cons_append, nil_append, hbd, Bool.false_eq_true, if_false]
   ·have hne : ((i : Int) = (aD_ x.Held j n s : Int)) = False := eq_false (by omega)
    have hb1 : cU_ j n s x.Held[i] = x.Held[i] := by
     rw [cU_, if_neg (fun z => c0 (hg_ hl.sorted hlt z))]
    rw [hb1] at hbc hbd
    simp (disch := (first | omega | (simp only [ls_, la_, lc_, ln_]; first | done | omega))) only [aj_, aK_, bG_, go_sem, reduceEqDiff, Nat.reduceAdd, reduceLeDiff, ↓reduceIte, hne, t4, t9, t11, t12, t13, o0, hrh, oG, him, hc4, hcell, aX_, Int.zero_add, Nat.zero_add, Nat.sub_zero]
    repeat (refine And.intro (by first | omega | (exact strs_cellv _) | assumption | (simp; done)) ?_)
    refine ⟨x.Held.length - (i + 1), by omega, hJ _ _ _ ⟨i + 1, em ++ [thb[i]], ins, true, by simp [upd, t1], by simp [upd, t2], by simp [upd, t3], by simp [upd, t4], by simp [upd, t8], by simp [upd], by simp [upd, t10], by simp [upd, t11, k2], by simp [upd, t12], by simp [upd], by simp; omega, fun y q1 q2 => ?_, ?_, by
     rw [take_succ_eq_append_getElem (by omega), ← append_assoc]
     exact List.Perm.append_right _ hperm, hins, (fun q => by cases q), (fun _ => rfl), ?_, by simp; omega, rfl, by omega⟩⟩
    ·(repeat (first | rw [af_ (by omega)] | rw [aj_ (by first | omega | (simp only [ls_, la_, lc_, ln_]; omega))])); exact hkp y q1 q2
    ·rw [aB_ (by simp; omega)]; simp only [map_append, map_cons, map_nil, hbc]
    ·rw [← hdat, drop_eq_getElem_cons hlt]
     simp only [cp_, hstep, map_append, map_cons, map_nil, append_assoc, cons_append, nil_append, hbd, hb1, Bool.false_eq_true, if_false]
 ·have hi2 : i = x.Held.length := by omega
  subst hi2
  rw [drop_length] at hdat
  have hownnt : ∀ h' : List Row, (∀ y, y < H1.length → H.length + 3 ≤ y → h'[y]? = H1[y]?) → H1.length ≤ h'.length → ∃ q, ∀ t ∈ [nt], au_ (Own h' q) t.c t.d t.f := fun h' q1 q2 => ⟨nq, fun t ht => by
   rw [mem_singleton.1 ht, hnt]
   exact au_.mono (fun a r g hg ho => ho.keep fun y hy => q1 y (nn3 y (hg y hy)).2 (by have := nn3 y (hg y hy); omega)) nn1⟩
  have hwide : ∀ t ∈ [nt], t.c.length = 4 ∧ t.c.all AV.cell = true := fun t ht => by rw [mem_singleton.1 ht, hntc]; exact ⟨rfl, rfl⟩
  have hnf : (([nt] : List Tr).map Tr.f).flatten = nf := by simp [hntf]
  have hH1 : ∀ y, y < H1.length → y ≠ H.length + 2 → h[y]? = H1[y]? := fun y q1 q2 => (hkp y (by omega) q2).trans (hx y q1)
  have hthm : thb.take x.Held.length = thb.take mh := by rw [hmh]
  rw [hthm] at hperm
  have hfin : ((x.Held.length : Int) < (mh : Int)) = False := eq_false (by omega)
  have hfin2 : th.length = mh → ((x.Held.length : Int) < (th.length : Int)) = False := fun e => eq_false (by omega)
  cases d with
  | true =>
   have hdat2 : em.map Tr.d = (ea_ x.Held j n s).map ac_.cells := by rw [← hdat]; simp [cp_]
   simp (disch := (first | omega | (simp only [ls_, la_, lc_, ln_]; first | done | omega))) only [af_, aB_, go_sem, reduceEqDiff, Nat.reduceAdd, reduceLeDiff, ↓reduceIte, t4, t8, t9, t12, t13, o0, o1, hrh, hfin, cb, Nat.sub_zero, c9_]
   exact hk2 _ em ins ⟨by simp; omega, fun y hy => by rw [af_ (by omega), af_ (by omega)]; exact mh0.kept y hy⟩ (by rw [af_ (by omega), af_ (by omega)]; exact oG) hperm (fun t ht => by
    rcases hins with e | e
    ·rw [e] at ht; cases ht
    ·rw [e] at ht; exact hwide t ht) (by
    rcases hins with e | e
    ·exact ⟨0, fun t ht => by rw [e] at ht; cases ht⟩
    ·rw [e]; exact hownnt _ (fun y q1 q2 => by rw [af_ (by omega), af_ (by omega)]; exact hH1 y q1 (by omega)) (by simp; omega)) (by
    rcases hins with e | e
    ·rw [e]; exact nodup_nil
    ·rw [e, hnf]; exact nn2) (fun y hy => by
    rcases hins with e | e
    ·rw [e] at hy; cases hy
    ·rw [e, hnf] at hy; have := nn3 y hy; simp; omega) hdat2
  | false =>
   have hdat2 : (em ++ [nt]).map Tr.d = (ea_ x.Held j n s).map ac_.cells := by rw [← hdat]; simp [cp_, hntd]
   simp (disch := (first | omega | (simp only [ls_, la_, lc_, ln_]; first | done | omega))) only [af_, aB_, aj_, aK_, go_sem, reduceEqDiff, Nat.reduceAdd, reduceLeDiff, ↓reduceIte, t4, t8, t9, t10, t12, t13, o0, o1, oF, oG, hrh, hfin, cb, Nat.sub_zero, c9_]
   refine ⟨by omega, by omega, ?_⟩
   have hel : em.length + 1 = (em ++ [nt]).length := by simp
   rw [hins2 rfl, nil_append] at hperm
   rw [hel]
   exact hk2 _ (em ++ [nt]) [nt] ⟨by simp; omega, fun y hy => by rw [af_ (by omega), af_ (by omega), af_ (by omega), aj_ (by omega)]; exact mh0.kept y hy⟩ (by rw [af_ (by omega), af_ (by omega), aB_ (by simp; omega), map_append, map_cons, map_nil, hntc]) ((List.Perm.append_right _ hperm).trans perm_append_comm) hwide (hownnt _ (fun y q1 q2 => by rw [af_ (by omega), af_ (by omega), af_ (by omega), aj_ (by omega)]; exact hH1 y q1 (by omega)) (by simp; omega)) (by rw [hnf]; exact nn2) (fun y hy => by rw [hnf] at hy; have := nn3 y hy; simp; omega) hdat2
theorem ug_ {k l n sz : Nat} {H : List Row} {ds : List (List AV)} {f : List Nat} (h : Own H k (.own l n) (.list 0 sz ds) f) : ∃ row, H[l]? = some row ∧ row.es.length = n ∧ n = ds.length := by
 cases k with
 | zero => exact h.elim
 | succ k =>
  obtain ⟨row, es, f, h1, h2, h3, h4, _⟩ := h
  simp only [AV.list.injEq, true_and] at h4
  refine ⟨row, h1, h2, ?_⟩
  obtain ⟨ts, e1, e2, _, _⟩ := a0_.trs h3
  rw [h4.2, ← e2, length_map, ← h2, ← e1, length_map]
theorem pH_ {lo : Nat} {H : List Row} {x : ab_} {a b : AV} {F : List Nat} (k : KV lo H x a b F) (hl : bO_ x) (j : Int) {n : ByteArray} {s : List ByteArray} {sa : AV} (hs : s.length ≤ 1048576) (hsa : bo_ H sa (.list 0 1 (s.map at_))) {K : AV → List Row → Prop}
 (hk : ∀ H' l row, aL_ H H' → H'[l]? = some row → row.es.length = (df_ x j n s).length → K (.own l (df_ x j n s).length) H') : callSem Tryz.prog 74 [.agg [a, b], .val (.int .i64 j), .val (.string n), sa] H K := by
 refine jk_ (iU_ x j n s hl.big hs) (aO_.cons k.arg (aO_.cons (bo_.same rfl) (aO_.cons (bo_.same rfl) (aO_.cons hsa aO_.nil)))) (fun av H' m F q => ?_)
 obtain ⟨k', b', ⟨l, c, rfl⟩, rfl⟩ := q
 obtain ⟨q, fs, h1, _, _⟩ := F.tree
 have h2 : Own H' q (.own (l + k') c) (.list 0 1 (az_ (df_ x j n s))) fs := h1
 obtain ⟨row, e1, e2, e3⟩ := ug_ h2
 have e4 : c = (df_ x j n s).length := by rw [e3]; simp [az_]
 subst e4
 exact hk H' _ row m e1 e2
theorem rV_ {lo : Nat} {H : List Row} {x : ab_} {a b : AV} {F : List Nat} (k : KV lo H x a b F) (hl : bO_ x) (j : Int) {n : ByteArray} {s : List ByteArray} {sa : AV} (hsa : bo_ H sa (.list 0 1 (s.map at_))) :
 aa_ Tryz.prog 91 [.agg [a, b], .val (.int .i64 j), .val (.string n), sa] H (.val (.bool (dq_ x.Held j n s))) :=
 aa_.anyR rfl (fun h => lD_ x hl j n s h) (aO_.cons k.arg (aO_.cons (bo_.same rfl) (aO_.cons (bo_.same rfl) (aO_.cons hsa aO_.nil))))
theorem rm_ {α : Type} (p : α → Bool) (l : List α) (i : Nat) (hi : i < l.length) (h1 : p l[i] = true) (h2 : ∀ (k : Nat) (hk : k < i), p l[k] = false) : aR_ p l 0 = ((0 + i : Nat) : Int) := by
 rcases eW_ p l 0 with ⟨_, h⟩ | ⟨i', hi', e, q1, q2⟩
 ·rw [h _ (getElem_mem hi)] at h1; cases h1
 ·rw [e]
  rcases Nat.lt_trichotomy i' i with z | z | z
  ·rw [h2 i' z] at q1; cases q1
  ·rw [z]
  ·rw [q2 i z] at h1; cases h1
theorem sE_ {α : Type} (p : α → Bool) (l : List α) (h : ∀ (k : Nat) (hk : k < l.length), p l[k] = false) : aR_ p l 0 = -1 := by
 rcases eW_ p l 0 with ⟨e, _⟩ | ⟨i', hi', _, q1, _⟩
 ·exact e
 ·rw [h i' hi'] at q1; cases q1
def c56 : LC :=
 .q [.o [.bx 1 32 0, .s 2 (.alloc 32 z0z), .nl 3], .o [.s 8 (.buildSlice 2 1 (.int .i64 0) 0 []), .m 4 8], .q [.o [.ki 5 0], .block 0 (.loop (.q [.q [.o [.m 9 5, .fa 10 1 1, .ln 11 10, .ll 12 11, .bb 13 .lss false 9 12],
 .k 13 .skip (.exit 0)], .block 1 (.q [.o [.fa 16 1 1, .ln 17 16, .m 18 5, .ia 19 4 17 18, .ld 20 4 19, .s 6 (.alloc 64 (.agg #[.int .i64 0, .int .i64 0, .string ⟨#[]⟩, .slice none 0 0])), .st 4 6 20], .q [.o [.ld 21 2 1,
 .fa 22 0 6, .ln 23 22, .fa 24 2 6, .ln 25 24, .fa 26 3 6, .ln 27 26, .s 28 (.call 74 [.tmp 21, .tmp 23, .tmp 25, .tmp 27]), .ll 29 28, .bk 30 .gtr false 29 0], .k 30 (.exit 1) .skip], .o [.ld 31 2 1, .fa 32 0 6, .ln 33
 32, .fa 34 2 6, .ln 35 34, .fa 36 3 6, .ln 37 36, .s 38 (.call 91 [.tmp 31, .tmp 33, .tmp 35, .tmp 37]), .m 7 38], .o [.ld 39 2 1, .m 40 5, .c2 41 92 39 40, .st 2 1 41], .q [.o [.m 42 7], .k 42 (.o [.ld 43 2 1, .fa 44 0
 6, .ln 45 44, .fa 46 2 6, .ln 47 46, .fa 48 3 6, .ln 49 48, .s 50 (.call 93 [.tmp 43, .tmp 45, .tmp 47, .tmp 49]), .st 2 1 50]) .skip], .o [.m 51 4, .fa 52 0 6, .ln 53 52, .s 54 (.buildSlice 2 1 (.int .i64 0) 1 [(0, .tmp
 53)]), .ap 55 2 1 8 51 54, .m 4 55], .o [.s 5 (.mov (.const (.int .i64 (-1))))]]), .o [.m 14 5, .bk 15 .add false 14 1, .m 5 15]]))], .o [.ld 56 2 1, .m 57 4, .st 2 2 56, .m 3 57], .ret]
def wG_ : LF := ⟨1, 58, c56, [.cell 2 (some 2), .tmp 3]⟩
theorem yk_ : aA_ Tryz.prog Tryz.f56 wG_ := ak_
theorem gA_ {lo : Nat} {H : List Row} {x : ab_} {a : AV} {lb nb : Nat} {F : List Nat} (k : KV lo H x a (.own lb nb) F) (hl : bO_ x) {K : AV → List Row → Prop}
 (hk : ∀ H' a' b' F' J, aL_ H H' → KV lo H' (bR_ x).1 a' b' F' → (∀ y ∈ F', y ∈ F ∨ H.length ≤ y) → H.length ≤ J → J ∉ F' → H'[J]? = some ⟨.ty 2, 1, az_ (bR_ x).2⟩ → K (.tup [.agg [a', b'], .own J (bR_ x).2.length]) H') : callSem Tryz.prog 56 [.agg [a, .own lb nb]] H K := by
 refine aZ_ mixed Tryz.func56 yk_ (bx_ rfl ?_)
 have hlow := k.low
 have ca := k.cells.1
 simp only [AV.cell, Value.oneCell'] at ca
 simp (disch := (first | omega | (simp only [ls_, la_, lc_, ln_]; first | done | omega))) only [go_sem, Nat.reduceAdd, Int.reduceNeg, ↓reduceIte, wG_, c56, ca]
 refine aG_ (fun m t h => ∃ (i : Nat) (y : ab_) (out : List Int) (ac : AV) (lc nc : Nat) (F' : List Nat), t 1 = .ptr H.length 1 0 0 ∧ t 2 = .ptr (H.length + 1) 1 0 0 ∧ t 4 = .own (H.length + 2) out.length ∧ t 5 = .val (.int .i64 i) ∧ aL_ H h ∧ h[H.length]? = some ⟨.ty 32, 2, [[ac, .own lc nc]]⟩ ∧
  h[H.length + 1]? = some ⟨.ty 32, 2, [[.val (.slice none 0 0), .val (.slice none 0 0)]]⟩ ∧ h[H.length + 2]? = some ⟨.ty 2, 1, az_ out⟩ ∧ H.length + 2 < h.length ∧ KV lo h y ac (.own lc nc) F' ∧ bO_ y ∧ (∀ z ∈ F', z ∈ F ∨ H.length + 3 ≤ z) ∧ (∀ (q : Nat) (hq : q < y.Asks.length), q < i → dR_ y y.Asks[q] = false) ∧ i ≤ y.Asks.length ∧
  out.length + y.Asks.length ≤ 4 ∧ m = y.Asks.length * 8 + (y.Asks.length - i) ∧ bR_ x = ((cQ_ y.Asks.length y).1, out ++ (cQ_ y.Asks.length y).2)) (x.Asks.length * 8 + x.Asks.length) ?_ ?_
 ·exact ⟨0, x, [], a, lb, nb, F, rfl, rfl, rfl, rfl, aL_.app _ _, aK_ rfl, bG_ rfl, cP_ rfl, by simp, k.more (aL_.app _ _), hl, fun z q => .inl q, fun q hq z => absurd z (Nat.not_lt_zero q), Nat.zero_le _, by have := hl.alen; simp; omega, rfl, rfl⟩
 rintro J hJ m t h ⟨i, y, out, ac, lc, nc, F', t1, t2, t4, t5, hM, o0, o1, o2, hlen, hK, hI, hF', hno, hi', hout, rfl, hS⟩
 have cc := hK.cells.1
 have hcc := cc
 simp only [AV.cell, Value.oneCell'] at hcc
 have hKl := hK.low
 have n0 : ∀ z ∈ F', H.length + 3 ≤ z ∨ z < H.length := fun z hz => (hF' z hz).elim (fun q => .inr (hlow z q).2) .inl
 obtain ⟨lh, mh, th, la, ma, ta, kl, hFe⟩ := id hK
 have hr := kl.asks.row
 have hma := kl.ma_eq
 have hmt : ma = ta.length ∧ la = lc ∧ ta.length = nc := by
  rcases kl.hb with e | ⟨e, e2⟩
  ·cases e
  ·simp only [AV.own.injEq] at e; exact ⟨e2, e.1.symm, e.2.symm⟩
 obtain ⟨hm1, rfl, hm2⟩ := hmt
 subst hm2
 have hal := hI.alen
 by_cases hlt : i < y.Asks.length
 ·have hit : i < ta.length := by omega
  obtain ⟨_, _, hid⟩ := o9_ kl hlt
  obtain ⟨kk, htree⟩ := kl.asks.tree
  have ht2 := htree ta[i] (getElem_mem hit)
  rw [hid] at ht2
  obtain ⟨c4, e4, hc4, ho4⟩ := kA_ ht2
  have hgt := hI.asks _ (getElem_mem hlt)
  rw [Bool.and_eq_true] at hgt
  have hc4' := hc4
  simp only [AV.cell, Value.oneCell'] at hc4'
  have hsa : ∀ H', aL_ h H' → bo_ H' c4 (.list 0 1 (y.Asks[i].Subs.map at_)) := fun H' m => bb_.any (.inr ⟨_, _, ho4.keep fun z hz => m.kept z (ho4.lt z hz)⟩)
  have hz := mQ_ y y.Asks[i].Job y.Asks[i].Name y.Asks[i].Subs
  simp (disch := (first | omega | (simp only [ls_, la_, lc_, ln_]; first | done | omega))) only [aj_, aK_, go_sem, reduceEqDiff, Nat.reduceAdd, Int.reduceNeg, ↓reduceIte, t1, t5, o0, hr, hit, e4, hc4', Nat.zero_add]
  refine pH_ (hK.more (aL_.app _ _)) hI y.Asks[i].Job (cf_ hgt.2).2.2 (hsa _ (aL_.app _ _)) (fun H1 lz row m1 q1 q2 => ?_)
  have mh1 : aL_ h H1 := (aL_.app _ _).trans m1
  have l1 := m1.len
  simp only [la_, lc_, ln_] at l1
  have p0 := mh1.at o0
  have p1 := mh1.at o1
  have p2 := mh1.at o2
  have pA := m1.at (gO_ h _)
  by_cases hm : dR_ y y.Asks[i] = true
  case neg =>
   have hm' : fo_ y y.Asks[i].Job y.Asks[i].Name y.Asks[i].Subs = false := by simpa [dR_] using hm
   rw [hm'] at hz
   have hz' : (0 < ((df_ y y.Asks[i].Job y.Asks[i].Name y.Asks[i].Subs).length : Int)) = True := eq_true (by have := of_decide_eq_false hz; omega)
   simp (disch := (first | omega | (simp only [ls_, la_, lc_, ln_]; first | done | omega))) only [go_sem, reduceEqDiff, Int.reduceNeg, ↓reduceIte, t5, q1, q2, hz', aX_]
   exact ⟨y.Asks.length * 8 + (y.Asks.length - (i + 1)), by omega, hJ _ _ _ ⟨i + 1, y, out, ac, la, ta.length, F', by simp [upd, t1], by simp [upd, t2], by simp [upd, t4], by simp [upd], hM.trans mh1, p0, p1, p2, by omega, hK.more mh1, hI, hF', fun q hq z => by
    rcases Nat.lt_or_ge q i with w | w
    ·exact hno q hq w
    ·have : q = i := by omega
     subst this
     exact hm', by omega, hout, rfl, hS⟩⟩
  have hm' : fo_ y y.Asks[i].Job y.Asks[i].Name y.Asks[i].Subs = true := by simpa [dR_] using hm
  rw [hm'] at hz
  have hz' : (0 < ((df_ y y.Asks[i].Job y.Asks[i].Name y.Asks[i].Subs).length : Int)) = False := eq_false (by have := of_decide_eq_true hz; omega)
  simp (disch := (first | omega | (simp only [ls_, la_, lc_, ln_]; first | done | omega))) only [go_sem, reduceEqDiff, Nat.reduceAdd, Int.reduceNeg, ↓reduceIte, t1, q1, q2, hz', p0, pA]
  refine aa_.call (rV_ (hK.more mh1) hI y.Asks[i].Job (hsa _ mh1)) ?_
  have hless := kl_ (getElem?_eq_getElem hlt)
  have hlenA : (bK_ y i y.Asks[i]).Asks.length + 1 = y.Asks.length := hless
  have hI3 : bO_ ⟨y.Held, y.Asks.eraseIdx i⟩ := hI.cut i
  cases qr : dq_ y.Held y.Asks[i].Job y.Asks[i].Name y.Asks[i].Subs
  all_goals
   simp (disch := (first | omega | (simp only [ls_, la_, lc_, ln_]; first | done | omega))) only [go_sem, reduceEqDiff, Nat.reduceAdd, Int.reduceNeg, ↓reduceIte, t1, t5, p0]
   refine jg_ (hK.more mh1) hI hlt (fun H2 l2 n2 F2 m2 K2 s2 => ?_)
   have mh2 : aL_ h H2 := mh1.trans m2
   have l2' := m2.len
   have x0 := m2.at p0
   have x1 := m2.at p1
   have x2 := m2.at p2
   have xA := m2.at pA
   have sF : ∀ z ∈ F2, (z ∈ F ∨ H.length + 3 ≤ z) := fun z hz => (s2 z hz).elim (hF' z) fun w => .inr (by omega)
   have sF' : ∀ z ∈ F2, z < H.length ∨ H.length + 3 ≤ z := fun z hz => (sF z hz).imp (fun w => (hlow z w).2) id
   simp (disch := (first | omega | (simp only [ls_, la_, lc_, ln_]; first | done | omega))) only [af_, aB_, aj_, aK_, ls_, go_sem, reduceEqDiff, Nat.reduceAdd, reduceLeDiff, Int.reduceNeg, Int.reduceAdd, ↓reduceIte, t1, t4, x0, x2, xA, hcc]
  ·have hgx : bK_ y i y.Asks[i] = ⟨y.Held, y.Asks.eraseIdx i⟩ := by rw [bK_, if_neg (by rw [qr]; simp)]
   have K5 : KV lo H2 (bK_ y i y.Asks[i]) ac (.own l2 n2) F2 := by rw [hgx]; exact K2
   have s5 := sF
   have s5' := sF'
   have w0 := x0
   have w1 := x1
   have w2 := x2
   have wA := xA
   have k5 : ∀ z, z < H.length → H2[z]? = H[z]? := fun z hz => ((hM.trans mh2).kept z hz)
   try simp (disch := (first | omega | (simp only [ls_, la_, lc_, ln_]; first | done | omega))) only [af_, aB_, aj_, aK_, bG_, cP_, rr_, ls_, go_sem, reduceEqDiff, Nat.reduceAdd, reduceLeDiff, reduceCtorEq, Int.reduceLT, Int.reduceLE, Int.reduceNeg, Int.reduceSub, Int.reduceAdd, Int.reduceToNat, ↓reduceIte, t1, t2, t4, t5, w0, w1, w2, wA, bC_, hcc, hc4', aX_]
   repeat (refine And.intro (by first | omega | (exact strs_cellv _) | assumption | (simp; done)) ?_)
   refine ⟨(bK_ y i y.Asks[i]).Asks.length * 8 + (bK_ y i y.Asks[i]).Asks.length, by omega, hJ _ _ _ ⟨0, bK_ y i y.Asks[i], out ++ [y.Asks[i].Job], ac, l2, n2, F2, by simp [upd, t1], by simp [upd, t2], by simp [upd], by simp [upd], ⟨by simp; omega, fun z hz => ?_⟩, by (repeat (first | rw [af_ (by omega)] | rw [aj_ (by first | omega | (simp only [ls_]; omega))])); exact aB_ (by omega), by (repeat (first | rw [af_ (by omega)] | rw [aj_ (by first | omega | (simp only [ls_]; omega))])); exact w1, ?_, by simp; omega, K5.keep (fun z hz => ?_) (by simp), fI_ hI (getElem?_eq_getElem hlt), s5, fun q hq z => absurd z (Nat.not_lt_zero q), Nat.zero_le _, by simp; omega, rfl, ?_⟩⟩
   ·(repeat (first | rw [af_ (by omega)] | rw [aj_ (by first | omega | (simp only [ls_]; omega))])); exact k5 z hz
   ·rw [aB_ (by simp; omega)]
   ·have h6 := s5' z hz
    have h7 := (K5.low z hz).2
    (repeat (first | rw [af_ (by omega)] | rw [aj_ (by first | omega | (simp only [ls_]; omega))]))
   ·rw [hS, ← hless, hA_ (rm_ _ _ _ hlt hm (fun q hq => hno q (by omega) hq)) hlt]
    simp
  ·have hgx : bK_ y i y.Asks[i] = ⟨ea_ y.Held y.Asks[i].Job y.Asks[i].Name y.Asks[i].Subs, y.Asks.eraseIdx i⟩ := by rw [bK_, if_pos qr]
   have K3 : KV lo (H2.set H.length ⟨.ty 32, 2, [[ac, .own l2 n2]]⟩) ⟨y.Held, y.Asks.eraseIdx i⟩ ac (.own l2 n2) F2 := K2.keep (fun z hz => af_ (by have := sF' z hz; omega)) (by simp)
   refine kC_ K3 hI3 y.Asks[i].Job hgt.2 (fun H' m => ?_) (fun H4 a4 F4 m4 K4 s4 => ?_)
   ·refine bb_.any (.inr ⟨_, _, ho4.keep fun z hz => ?_⟩)
    have hzF : z ∈ F' := by rw [hFe]; exact mem_append_right _ (fd_ (getElem_mem hit) hz)
    have hzl := ho4.lt z hz
    have := n0 z hzF
    rw [m.kept z (by simp; omega), af_ (by omega)]; exact mh2.kept z hzl
   have l4 := m4.len
   simp only [ls_] at l4
   rw [← hgx] at K4
   have K5 := K4
   have s5 : ∀ z ∈ F4, (z ∈ F ∨ H.length + 3 ≤ z) := fun z hz => (s4 z hz).elim (sF z) fun w => .inr (by simp at w; omega)
   have s5' : ∀ z ∈ F4, z < H.length ∨ H.length + 3 ≤ z := fun z hz => (s5 z hz).imp (fun w => (hlow z w).2) id
   have w0 := m4.at (aB_ (r := ⟨.ty 32, 2, [[ac, .own l2 n2]]⟩) (show H.length < H2.length by omega))
   have w1 := m4.at ((af_ (show H.length ≠ H.length + 1 by omega)).trans x1)
   have w2 := m4.at ((af_ (show H.length ≠ H.length + 2 by omega)).trans x2)
   have wA := m4.at ((af_ (show H.length ≠ h.length by omega)).trans xA)
   have c4a := K4.cells.1
   simp only [AV.cell, Value.oneCell'] at c4a
   have k5 : ∀ z, z < H.length → H4[z]? = H[z]? := fun z hz => by rw [m4.kept z (by simp; omega), af_ (by omega)]; exact (hM.trans mh2).kept z hz
   simp (disch := (first | omega | (simp only [ls_, la_, lc_, ln_]; first | done | omega))) only [af_, aj_, aK_, ls_, go_sem, reduceEqDiff, Nat.reduceAdd, reduceLeDiff, Int.reduceNeg, Int.reduceAdd, ↓reduceIte, t1, t4, w0, w2, wA, bC_, c4a, aX_]
   repeat (refine And.intro (by first | omega | (exact strs_cellv _) | assumption | (simp; done)) ?_)
   refine ⟨(bK_ y i y.Asks[i]).Asks.length * 8 + (bK_ y i y.Asks[i]).Asks.length, by omega, hJ _ _ _ ⟨0, bK_ y i y.Asks[i], out ++ [y.Asks[i].Job], a4, l2, n2, F4, by simp [upd, t1], by simp [upd, t2], by simp [upd], by simp [upd], ⟨by simp; omega, fun z hz => ?_⟩, by (repeat (first | rw [af_ (by omega)] | rw [aj_ (by first | omega | (simp only [ls_]; omega))])); exact aB_ (by omega), by (repeat (first | rw [af_ (by omega)] | rw [aj_ (by first | omega | (simp only [ls_]; omega))])); exact w1, ?_, by simp; omega, K5.keep (fun z hz => ?_) (by simp), fI_ hI (getElem?_eq_getElem hlt), s5, fun q hq z => absurd z (Nat.not_lt_zero q), Nat.zero_le _, by simp; omega, rfl, ?_⟩⟩
   ·(repeat (first | rw [af_ (by omega)] | rw [aj_ (by first | omega | (simp only [ls_]; omega))])); exact k5 z hz
   ·rw [aB_ (by simp; omega)]
   ·have h6 := s5' z hz
    have h7 := (K5.low z hz).2
    (repeat (first | rw [af_ (by omega)] | rw [aj_ (by first | omega | (simp only [ls_]; omega))]))
   ·rw [hS, ← hless, hA_ (rm_ _ _ _ hlt hm (fun q hq => hno q (by omega) hq)) hlt]
    simp
 ·have hi2 : i = y.Asks.length := by omega
  subst hi2
  have hstop : aR_ (dR_ y) y.Asks 0 = -1 := sE_ _ _ fun q hq => hno q hq hq
  rw [j5_ hstop, append_nil] at hS
  have e1 : (bR_ x).1 = y := by rw [hS]
  have e2 : (bR_ x).2 = out := by rw [hS]
  rw [e1, e2] at hk
  have hfin : ((y.Asks.length : Int) < (ta.length : Int)) = False := eq_false (by omega)
  simp (disch := (first | omega | (simp only [ls_, la_, lc_, ln_]; first | done | omega))) only [aB_, go_sem, reduceEqDiff, Nat.reduceAdd, Int.reduceNeg, ↓reduceIte, t1, t2, t4, t5, o0, o1, hr, hfin, hcc, p7_]
  exact hk _ _ _ F' _ ⟨by simp; omega, fun z hz => by (repeat (first | rw [af_ (by omega)] | rw [aj_ (by first | omega | (simp only [ls_, la_, lc_, ln_]; omega))])); exact hM.kept z hz⟩ (hK.keep (fun z hz => af_ (by have := n0 z hz; omega)) (by simp)) (fun z hz => (hF' z hz).imp id fun w => by omega) (by omega) (fun z => by have := n0 _ z; omega) (by (repeat (first | rw [af_ (by omega)] | rw [aj_ (by first | omega | (simp only [ls_, la_, lc_, ln_]; omega))])); exact o2)
theorem kh_ {S : Sit} : ∀ {e : List AV} {vs : List Value}, ax_ S e vs → ∃ us : List Value, us.length = e.length ∧ ax_ S (us.map .val) vs ∧ (e.all AV.cell = true → (us.map AV.val).all AV.cell = true)
 | [], vs, _ => ⟨[], rfl, by simp [ax_], fun _ => rfl⟩
 | c :: e, vs, h => by
  have h1 : ∃ v r, vs = v :: r ∧ Rep S c v ∧ ax_ S e r := by simpa only [ax_] using h
  obtain ⟨v, r, rfl, h2, h3⟩ := h1
  obtain ⟨us, q1, q2, q3⟩ := kh_ h3
  refine ⟨v :: us, by simp [q1], ?_, fun hc => ?_⟩
  ·have : ∃ v' r', v :: r = v' :: r' ∧ Rep S (.val v) v' ∧ ax_ S (us.map .val) r' := ⟨v, r, rfl, by simp [Rep], q2⟩
   simpa only [map_cons, ax_] using this
  ·rw [all_cons, Bool.and_eq_true] at hc
   rw [map_cons, all_cons, Bool.and_eq_true]
   exact ⟨kN_ hc.1 h2, q3 hc.2⟩
theorem k6_ {S : Sit} {e : List AV} : ∀ {es : List (List AV)} {vs : List Value}, aq_ S (es ++ [e]) vs → ∃ us : List Value, us.length = e.length ∧ aq_ S (es ++ [us.map .val]) vs ∧ (e.all AV.cell = true → (us.map AV.val).all AV.cell = true)
 | [], vs, h => by
  have h1 : ax_ S e vs ∧ True := by simpa only [nil_append, aq_] using h
  obtain ⟨us, q1, q2, q3⟩ := kh_ h1.1
  exact ⟨us, q1, by simpa only [nil_append, aq_, and_true] using q2, q3⟩
 | a :: es, vs, h => by
  have h1 : ax_ S a vs ∧ aq_ S (es ++ [e]) (vs.drop a.length) := by simpa only [cons_append, aq_] using h
  obtain ⟨us, q1, q2, q3⟩ := k6_ h1.2
  exact ⟨us, q1, by simpa only [cons_append, aq_] using (⟨h1.1, q2⟩ : ax_ S a vs ∧ aq_ S (es ++ [us.map .val]) (vs.drop a.length)), q3⟩
theorem np_ {P : Program} {f : FuncId} {args : List AV} {h : List Row} {K : AV → List Row → Prop} {l sz : Nat} {E : TypeId} {es : List (List AV)} {e : List AV} (hl : h[l]? = some ⟨.ty E, sz, es ++ [e]⟩) (hc : e.all AV.cell = true)
 (hk : ∀ us : List Value, us.length = e.length → (us.map AV.val).all AV.cell = true → callSem P f args (h.set l ⟨.ty E, sz, es ++ [us.map .val]⟩) K) : callSem P f args h K := by
 intro S w vals hm hgl hr
 have hlt := (List.getElem?_eq_some_iff.1 hl).1
 obtain ⟨i, hi⟩ : ∃ i, S.rows[l]? = some i := ⟨_, getElem?_eq_getElem (by rw [hm.len]; exact hlt)⟩
 obtain ⟨k1, k2, k3, k4⟩ := hm.rows l i _ hi hl
 cases hb : i.blk with
 | none => rw [hb] at k4; simp at k4
 | some b =>
  rw [hb] at k4
  have k5 := k4.2
  rw [bf_.ty (E := E) rfl] at k5
  obtain ⟨c, c1, c2, c3⟩ := k5
  obtain ⟨us, q1, q2, q3⟩ := k6_ c2
  refine hk us q1 (q3 hc) S w vals ⟨hm.imm, by simp [hm.len], fun l' i' r z1 z2 => ?_, hm.one⟩ hgl hr
  rw [getElem?_set] at z2
  by_cases el : l = l'
  ·subst el
   simp [hlt] at z2
   subst z2
   rw [hi] at z1
   obtain rfl := Option.some.inj z1
   refine ⟨by simpa using k1, k2, fun e' he' => ?_, ?_⟩
   ·rcases mem_append.1 he' with z | z
    ·exact k3 e' (mem_append_left _ z)
    ·rw [mem_singleton] at z
     subst z
     rw [length_map, q1]; exact k3 e (mem_append_right _ (mem_singleton_self _))
   ·rw [hb]
    refine ⟨k4.1, ?_⟩
    rw [bf_.ty (E := E) rfl]
    exact ⟨c, c1, q2, c3⟩
  ·simp [el] at z2
   exact hm.rows l' i' r z1 z2
theorem hE_ {lo : Nat} {H : List Row} {J : Nat} {E : Tag} (hr : H[J]? = some ⟨E, 1, []⟩) (h1 : lo ≤ J) : aQ_ lo H.length H (.own J 0) (.list 0 1 (az_ [])) := pg_ (out := []) hr h1 (List.getElem?_eq_some_iff.1 hr).1
theorem sU_ {α : Type} {W : List α} {p N : Nat} (hN : W.length = N) (hp : p < N) : List.take p W ++ (List.drop (p + 1) (List.take N W) ++ List.drop (N - 1) W) = W.eraseIdx p ++ [W[N - 1]'(by omega)] := by
 rw [← append_assoc, eraseIdx_eq_take_drop_succ, take_of_length_le (by omega : W.length ≤ N)]
 congr 1
 rw [drop_eq_getElem_cons (by omega), drop_eq_nil_of_le (by omega)]
theorem mE_ {H : List Row} : ∀ us : List Value, au_ (Own H (0 + 1)) (us.map AV.val) (us.map AV.val) []
 | [] => au_.mk_nil _
 | u :: us => au_.mk_val u (mE_ us)
def c20 : LC :=
 .q [.o [.bx 4 32 0, .s 8 (.alloc 32 z0z), .nl 9, .ki 10 0], .q [.o [.ld 15 2 4, .c1 16 32 15, .nt 17 16, .m 18 17, .gm 19 18 false 1, .gc 20 18 false 52 19, .gu 21 18 false 20, .pt 22 18 21, .m 23 22, .gm 24 23 false 2,
 .gm 25 23 false 3, .g 26 23 false (.call 53 [.tmp 24, .tmp 25]), .gu 27 23 false 26, .pt 28 23 27], .k 28 (.q [.o [.s 29 (.build z0z [(0, 1), (1, 1)] []), .s 30 (.buildSlice 2 1 (.int .i64 0) 0 []), .st 2 8 29, .m 9 30,
 .ki 10 1], .ret]) .skip], .o [.ld 31 2 4, .m 32 1, .m 33 2, .m 34 3, .s 35 (.call 54 [.tmp 31, .tmp 32, .tmp 33, .tmp 34]), .m 11 35], .q [.o [.m 36 11, .bk 37 .lss false 36 0], .k 37 (.q [.o [.s 38 (.build z0z [(0, 1),
 (1, 1)] []), .s 39 (.buildSlice 2 1 (.int .i64 0) 0 []), .st 2 8 38, .m 9 39, .ki 10 3], .ret]) .skip], .o [.ld 40 2 4, .c1 41 55 40, .s 12 (.alloc 32 z0z), .st 2 12 41], .o [.fa 42 0 12, .ln 43 42, .m 44 11, .ia 45 4 43
 44, .fa 46 1 45, .ln 47 46, .bk 48 .sub false 47 1, .ia 49 4 43 44, .fa 50 1 49, .st 1 50 48], .q [.o [.fa 51 0 12, .ln 52 51, .m 53 11, .ia 54 4 52 53, .fa 55 1 54, .ln 56 55, .bk 57 .eql false 56 0], .k 57 (.gops [.fa
 58 0 12, .ln 59 58, .m 60 11, .s 61 (.sliceSl 4 (.tmp 59) none (some (.tmp 60))), .fa 62 0 12, .ln 63 62, .m 64 11, .bk 65 .add false 64 1, .s 66 (.sliceSl 4 (.tmp 63) (some (.tmp 65)) none)] [(.ap 67 74 4 56 61 66, []),
 (.fa 68 0 12, []), (.st 1 68 67, [])]) .skip], .o [.ld 70 2 12, .c1 71 56 70, .m 69 71, .ex 72 69 0, .ex 73 69 1, .s 13 (.alloc 32 z0z), .st 2 13 72, .m 14 73], .o [.ld 74 2 13, .m 75 14, .st 2 8 74, .m 9 75, .ki 10 0],
 .ret]
def vw_ : LF := ⟨4, 76, c20, [.cell 8 (some 2), .tmp 9, .tmp 10]⟩
theorem yx_ : aA_ Tryz.prog Tryz.f20 vw_ := ak_
theorem ji_ (x : ab_) (j : Int) (n : ByteArray) (s : List ByteArray) (hx : ab_.sz x ≤ 1048576) (hn : n.size ≤ 1048576) (hs : ao_ ByteArray.size s ≤ 1048576) : bq_ Tryz.prog 20 [.agg (ab_.cells x), .val (.int .i64 j), .val (.string n), .list 0 1 (s.map at_)] (gS_ (a3_ x j n s)) pC_ := by
 refine hz_ mixed Tryz.func20 yx_ rfl (fun h0 => ?_)
 simp (disch := (first | omega | (simp only [ls_, la_, lc_, ln_]; first | done | omega))) only [aK_, go_sem, reduceEqDiff, Nat.reduceAdd, ↓reduceIte, vw_, c20, h5_]
 refine aa_.call (m3_ x hx _) ?_
 cases q : ca_ x
 ·have hR : a3_ x j n s = (d3_, [], 1) := by rw [a3_, q]; rfl
  rw [hR]
  simp (disch := (first | omega | (simp only [ls_, la_, lc_, ln_]; first | done | omega))) only [bG_, go_sem, reduceEqDiff, Nat.reduceAdd, ↓reduceIte, c4_, Option.map_some, c5_]
  exact ⟨⟨aL_.app _ _, jS_ (hE_ (cP_ rfl) (by omega)) (by simp) _⟩, _, _, _, rfl, rfl, _, rfl⟩
 have hI := bO_.of q
 simp (disch := (first | omega | (simp only [ls_, la_, lc_, ln_]; first | done | omega))) only [go_sem, reduceEqDiff, ↓reduceIte]
 refine aa_.call (cG_ _ _) ?_
 cases qj : bn_ j 1 4
 ·have hR : a3_ x j n s = (d3_, [], 1) := by rw [a3_, q, qj]; rfl
  rw [hR]
  simp (disch := (first | omega | (simp only [ls_, la_, lc_, ln_]; first | done | omega))) only [bG_, go_sem, reduceEqDiff, Nat.reduceAdd, ↓reduceIte, c4_, Option.map_some, c5_]
  exact ⟨⟨aL_.app _ _, jS_ (hE_ (cP_ rfl) (by omega)) (by simp) _⟩, _, _, _, rfl, rfl, _, rfl⟩
 simp (disch := (first | omega | (simp only [ls_, la_, lc_, ln_]; first | done | omega))) only [go_sem, reduceEqDiff, ↓reduceIte]
 refine aa_.call (ch_ _ _ hn (ar_ hs) _) ?_
 cases qt : b5_ n s
 ·have hR : a3_ x j n s = (d3_, [], 1) := by rw [a3_, q, qj, qt]; rfl
  rw [hR]
  simp (disch := (first | omega | (simp only [ls_, la_, lc_, ln_]; first | done | omega))) only [bG_, go_sem, reduceEqDiff, Nat.reduceAdd, ↓reduceIte, c4_, Option.map_some, c5_]
  exact ⟨⟨aL_.app _ _, jS_ (hE_ (cP_ rfl) (by omega)) (by simp) _⟩, _, _, _, rfl, rfl, _, rfl⟩
 simp (disch := (first | omega | (simp only [ls_, la_, lc_, ln_]; first | done | omega))) only [aK_, go_sem, reduceEqDiff, Nat.reduceAdd, ↓reduceIte]
 refine aa_.call (gt_ x j n s hx _) ?_
 rcases nQ_ hI j n s with ⟨qk, e1⟩ | ⟨qk, e1⟩
 ·have hR : a3_ x j n s = (d3_, [], 3) := by rw [a3_, q, qj, qt, qk]; rfl
  rw [hR]
  have hneg : ((-1 : Int) < 0) = True := eq_true (by omega)
  simp (disch := (first | omega | (simp only [ls_, la_, lc_, ln_]; first | done | omega))) only [bG_, go_sem, reduceEqDiff, Nat.reduceAdd, Int.reduceNeg, ↓reduceIte, e1, hneg, c4_, Option.map_some, c5_]
  exact ⟨⟨aL_.app _ _, jS_ (hE_ (cP_ rfl) (by omega)) (by simp) _⟩, _, _, _, rfl, rfl, _, rfl⟩
 have hR : a3_ x j n s = ((bR_ ⟨dd_ x.Held j n s, x.Asks⟩).1, (bR_ ⟨dd_ x.Held j n s, x.Asks⟩).2, 0) := by rw [a3_, q, qj, qt, qk]; rfl
 rw [hR]
 have hneg : ((aD_ x.Held j n s : Int) < 0) = False := eq_false (by omega)
 simp (disch := (first | omega | (simp only [ls_, la_, lc_, ln_]; first | done | omega))) only [aK_, go_sem, reduceEqDiff, Nat.reduceAdd, ↓reduceIte, e1, hneg]
 refine lj_ x hx (fun H1 lh nh th la na ta m1 k1 => ?_)
 have l1 := m1.len
 simp only [la_, lc_, ln_] at l1
 have o1 := m1.at (i := h0.length + 1) (bG_ rfl)
 have hlen := hI.len
 have mh1 : aL_ h0 H1 := (aL_.app _ _).trans m1
 have hnh : nh = th.length ∧ na = ta.length := by
  rcases k1.ha with e | ⟨e, _⟩
  ·cases e
  ·rcases k1.hb with e2 | ⟨e2, _⟩
   ·cases e2
   ·simp only [AV.own.injEq, true_and] at e e2; exact ⟨e, e2⟩
 obtain ⟨rfl, rfl⟩ := hnh
 obtain ⟨hp, hf⟩ := fe_ hI.sorted qk
 obtain ⟨hpm, hpt, hpd⟩ := f0_ k1 hp
 obtain ⟨qq, hq⟩ := k1.held.tree
 have ho := hq _ (getElem_mem hpt)
 rw [hpd] at ho
 obtain ⟨c4, hc4, hcell, _⟩ := fp_ ho
 have hcell' := hcell
 simp only [AV.cell, Value.oneCell'] at hcell'
 have hmh := k1.mh_eq
 have hlht := k1.held.lt
 have low : ∀ y, (y ∈ aI_ lh th ∨ y ∈ aI_ la ta) → h0.length + 2 ≤ y ∧ y < H1.length := fun y hy => by
  have h3 := hy.elim (fun z => k1.held.lows y z) (fun z => k1.asks.lows y z)
  simp only [la_, lc_, ln_] at h3
  omega
 have hlh2 := low lh (.inl mem_cons_self)
 have kb := k1.more (aL_.app H1 [⟨.ty 32, 2, [[.own lh th.length, .own la ta.length]]⟩])
 have B : KB (h0.length + 2) (H1 ++ [⟨.ty 32, 2, [[.own lh th.length, .own la ta.length]]⟩]) H1.length x (.own lh th.length) (.own la ta.length) lh th.length th la ta.length ta := ⟨aK_ rfl, by simpa using kb, fun z => by have := low _ (.inl z); omega, fun z => by have := low _ (.inr z); omega, by omega⟩
 obtain ⟨th', f1, f2, f3, B'⟩ := B.bumped hp hpt (-1) hc4 hpd
 have hcnt := hI.held _ (getElem_mem hp)
 simp only [cH_, bn_, Bool.and_eq_true, decide_eq_true_eq] at hcnt
 have e5 : x.Held[aD_ x.Held j n s].Count + -1 = x.Held[aD_ x.Held j n s].Count - 1 := by omega
 rw [e5] at f2
 have hgs : ∀ cs, ((th.map Tr.c).set (aD_ x.Held j n s) cs)[aD_ x.Held j n s]? = some cs := fun cs => by rw [getElem?_set_self (by simpa using hpt)]
 have hcut : dd_ x.Held j n s = if x.Held[aD_ x.Held j n s].Count = 1 then x.Held.eraseIdx (aD_ x.Held j n s) else x.Held.modify (aD_ x.Held j n s) (ep_ (-1)) := by
  unfold dd_; rw [getElem?_eq_getElem hp]
 have hr := k1.held.row
 have fin : ∀ (Hg : List Row) (a : AV) (F : List Nat), Hg.length = H1.length + 1 → Hg[h0.length + 1]? = some ⟨.ty 32, 2, [[.val (.slice none 0 0), .val (.slice none 0 0)]]⟩ → (∀ y, y < h0.length → Hg[y]? = h0[y]?) → (∀ y ∈ F, h0.length + 2 ≤ y) → ∀ (H2 : List Row) (a2 b2 : AV) (F2 : List Nat) (J : Nat), aL_ Hg H2 → KV (h0.length + 2) H2 (bR_ ⟨dd_ x.Held j n s, x.Asks⟩).1 a2 b2 F2 → (∀ y ∈ F2, y ∈ F ∨ Hg.length ≤ y) → Hg.length ≤ J → J ∉ F2 → H2[J]? = some ⟨.ty 2, 1, az_ (bR_ ⟨dd_ x.Held j n s, x.Asks⟩).2⟩ →
  ∀ H3 : List Row, H3 = (H2 ++ [(⟨.ty 32, 2, [[a2, b2]]⟩ : Row)]).set (h0.length + 1) ⟨.ty 32, 2, [[a2, b2]]⟩ → Res h0 H3 (.tup [.agg [a2, b2], .own J (bR_ ⟨dd_ x.Held j n s, x.Asks⟩).2.length, .val (.int .i64 0)]) (gS_ ((bR_ ⟨dd_ x.Held j n s, x.Asks⟩).1, (bR_ ⟨dd_ x.Held j n s, x.Asks⟩).2, 0)) ∧ pC_ (.tup [.agg [a2, b2], .own J (bR_ ⟨dd_ x.Held j n s, x.Asks⟩).2.length, .val (.int .i64 0)]) := by
  intro Hg a F g1 g2 g3 g4 H2 a2 b2 F2 J m2 K2 s2 hJ1 hJ2 hJ3 H3 e3
  have l2 := m2.len
  obtain ⟨lh2, mh2, th2, la2, ma2, ta2, kl2, rfl⟩ := K2
  have hJl := (List.getElem?_eq_some_iff.1 hJ3).1
  have hno : ∀ y ∈ aI_ lh2 th2 ++ aI_ la2 ta2, h0.length + 1 ≠ y ∧ y < H2.length := fun y hy => by
   have h4 : y < H2.length := (mem_append.1 hy).elim (fun z => (kl2.held.lows y z).2) (fun z => (kl2.asks.lows y z).2)
   have h5 := (s2 y hy).elim (g4 y) (fun z => by omega)
   omega
  have k3 : ∀ y, y < H2.length → y ≠ h0.length + 1 → H3[y]? = H2[y]? := fun y q1 q2 => by rw [e3, af_ (Ne.symm q2), aj_ q1]
  have l3 : H3.length = H2.length + 1 := by rw [e3]; simp
  refine ⟨⟨⟨by omega, fun y hy => ?_⟩, ?_⟩, a2, b2, _, kl2.ha.cell, kl2.hb.cell, _, rfl⟩
  ·rw [k3 y (by omega) (by omega), m2.kept y (by omega)]; exact g3 y hy
  ·exact (tf_ (kl2.keep (H' := H3) (fun y hy => k3 y (hno y (mem_append_left _ hy)).2 (Ne.symm (hno y (mem_append_left _ hy)).1)) (fun y hy => k3 y (hno y (mem_append_right _ hy)).2 (Ne.symm (hno y (mem_append_right _ hy)).1)) (by omega)) (J := J) (E := .ty 2) (by rw [k3 J hJl (by omega)]; exact hJ3) hJ2 (by omega) 0).widen (by omega) (Nat.le_refl _)
 by_cases h1 : x.Held[aD_ x.Held j n s].Count = 1
 ·have hz : (x.Held[aD_ x.Held j n s].Count - 1 = 0) = True := eq_true (by omega)
  have hti : ((aD_ x.Held j n s : Int) + 1).toNat = aD_ x.Held j n s + 1 := by omega
  have i1 : aD_ x.Held j n s ≤ th.length := by omega
  have i2 : aD_ x.Held j n s + 1 ≤ th.length := by omega
  have i3 : aD_ x.Held j n s + (th.length - (aD_ x.Held j n s + 1)) = th.length - 1 := by omega
  have i4 : th.length - 1 ≤ th.length := by omega
  simp (disch := (first | omega | (simp only [ls_, la_, lc_, ln_]; first | done | omega))) only [af_, aB_, aj_, aK_, ls_, go_sem, reduceEqDiff, Nat.reduceAdd, reduceLeDiff, ↓reduceIte, hr, hpt, hc4, hz, hgs, hti, i1, i2, i3, i4, aX_, Nat.zero_add, length_take, length_drop, ls_, length_map, Nat.min_self, if_pos]
  rw [← f2]
  have hw : ∀ e ∈ th'.map Tr.c, e.all AV.cell = true := fun e he => by
   obtain ⟨z, hz1, rfl⟩ := mem_map.1 he
   exact (B'.kl.held.wide z hz1).2
  have hwl : ∀ e ∈ th'.map Tr.c, e.length = 4 := fun e he => by
   obtain ⟨z, hz1, rfl⟩ := mem_map.1 he
   exact (B'.kl.held.wide z hz1).1
  refine ⟨by omega, by omega, fun e he => hw e (mem_of_mem_take (mem_of_mem_drop he)), ?_⟩
  have hWl : (th'.map Tr.c).length = th.length := by simp [f1]
  rw [set_set, sU_ hWl hpt]
  have hel : (th'.map Tr.c)[th.length - 1]'(by omega) ∈ th'.map Tr.c := getElem_mem _
  refine np_ (l := lh) (E := 74) (sz := 4) (es := (th'.map Tr.c).eraseIdx (aD_ x.Held j n s)) (by rw [af_ (by omega), aB_ (by simp; omega)]) (hw _ hel) (fun us u1 u2 => ?_)
  rw [hwl _ hel] at u1
  obtain ⟨z, hz0⟩ : ∃ z : Tr, z = ⟨us.map AV.val, us.map AV.val, []⟩ := ⟨_, rfl⟩
  have hrow : (th'.map Tr.c).eraseIdx (aD_ x.Held j n s) ++ [us.map AV.val] = (th'.eraseIdx (aD_ x.Held j n s) ++ [z]).map Tr.c := by
   rw [map_append, eO_, hz0]; rfl
  rw [hrow]
  have hts : (th'.eraseIdx (aD_ x.Held j n s) ++ [z]).length = th.length := by
   rw [la_, length_eraseIdx, if_pos (by omega)]; simp; omega
  have hel2 : (th'.eraseIdx (aD_ x.Held j n s)).length = th.length - 1 := by
   rw [length_eraseIdx, if_pos (by omega)]; omega
  obtain ⟨Hg, hHg⟩ : ∃ Hg, Hg = ((((H1 ++ [(⟨.ty 32, 2, [[.own lh th.length, .own la ta.length]]⟩ : Row)]).set lh ⟨.ty 74, 4, (th'.map Tr.c).eraseIdx (aD_ x.Held j n s) ++ [(th'.map Tr.c)[th.length - 1]'(by omega)]⟩).set H1.length ⟨.ty 32, 2, [[.sub lh th.length 0 (th.length - 1), .own la ta.length]]⟩).set lh ⟨.ty 74, 4, (th'.eraseIdx (aD_ x.Held j n s) ++ [z]).map Tr.c⟩) := ⟨_, rfl⟩
  rw [← hHg]
  have lg : Hg.length = H1.length + 1 := by rw [hHg]; simp
  have kg : ∀ y, y < H1.length → y ≠ lh → Hg[y]? = H1[y]? := fun y q1 q2 => by
   rw [hHg, af_ (Ne.symm q2), af_ (by omega), af_ (Ne.symm q2), aj_ q1]
  have rg : Hg[lh]? = some ⟨.ty 74, 4, (th'.eraseIdx (aD_ x.Held j n s) ++ [z]).map Tr.c⟩ := by rw [hHg, aB_ (by simp; omega)]
  have bg : Hg[H1.length]? = some ⟨.ty 32, 2, [[.sub lh th.length 0 (th.length - 1), .own la ta.length]]⟩ := by rw [hHg, af_ (by omega), aB_ (by simp)]
  have kb2 : ∀ y, y < H1.length → y ≠ lh → Hg[y]? = ((H1 ++ [(⟨.ty 32, 2, [[.own lh th.length, .own la ta.length]]⟩ : Row)]).set lh ⟨.ty 74, 4, th'.map Tr.c⟩)[y]? := fun y q1 q2 => by
   rw [kg y q1 q2, af_ (Ne.symm q2), aj_ q1]
  have sl : bv_ (h0.length + 2) Hg 74 4 lh (th.length - 1) (th'.eraseIdx (aD_ x.Held j n s) ++ [z]) := by
   refine B'.kl.held.renew (new := [z]) (old := th'.eraseIdx (aD_ x.Held j n s)) rg (by omega) perm_append_comm (eraseIdx_sublist _ _) (fun t ht => ?_) ⟨0 + 1, fun t ht => ?_⟩ ?_ (fun y hy => ?_) (fun y hy => ?_) (.inl rfl) (by simp; omega)
   ·rw [mem_singleton.1 ht, hz0]; exact ⟨by simpa using u1, u2⟩
   ·rw [mem_singleton.1 ht, hz0]; exact mE_ us
   ·rw [hz0]; exact nodup_nil
   ·rw [hz0] at hy; simp at hy
   ·have hy2 : y ∈ aI_ lh th := by rw [← f3]; exact mem_cons_of_mem _ hy
    exact kb2 y (low y (.inl hy2)).2 (fun e => (nodup_cons.1 B'.kl.held.one).1 (e ▸ hy))
  have hds : ((th'.eraseIdx (aD_ x.Held j n s) ++ [z]).take (th.length - 1)).map Tr.d = (dd_ x.Held j n s).map ac_.cells := by
   have e8 := B'.kl.hd
   rw [← f1, take_length] at e8
   rw [take_left' hel2, eO_, e8, ← eO_, hcut, if_pos h1, lL_]
  have hft : ∀ y ∈ aI_ lh (th'.eraseIdx (aD_ x.Held j n s) ++ [z]), y ∈ aI_ lh th := fun y hy => by
   rw [← f3]
   rcases mem_cons.1 hy with e | e
   ·rw [e]; exact mem_cons_self
   ·rw [map_append, flatten_append] at e
    rcases mem_append.1 e with e | e
    ·exact mem_cons_of_mem _ ((eS_ ((eraseIdx_sublist _ _).map Tr.f)).subset e)
    ·rw [hz0] at e; simp at e
  have kK : KV (h0.length + 2) Hg ⟨dd_ x.Held j n s, x.Asks⟩ (.sub lh th.length 0 (th.length - 1)) (.own la ta.length) (aI_ lh (th'.eraseIdx (aD_ x.Held j n s) ++ [z]) ++ aI_ la ta) := by
   refine ⟨lh, th.length - 1, _, la, ta.length, ta, B'.kl.setHeld (.inl (by rw [hts])) sl hds (fun y hy => .inl (by rw [f3]; exact hft y hy)) (fun y hy => kb2 y (low y (.inr hy)).2 (fun e => k1.apart lh mem_cons_self (by rw [← e]; exact hy))) (by simp; omega), rfl⟩
  refine gA_ kK (io_ hI) (fun H2 a2 b2 F2 J m2 K2 s2 hJ1 hJ2 hJ3 => ?_)
  have hFl : ∀ y ∈ aI_ lh (th'.eraseIdx (aD_ x.Held j n s) ++ [z]) ++ aI_ la ta, h0.length + 2 ≤ y := fun y hy => (mem_append.1 hy).elim (fun w => (low y (.inl (hft y w))).1) (fun w => (low y (.inr w)).1)
  have og : Hg[h0.length + 1]? = _ := (kg _ (by omega) (by omega)).trans o1
  have hfin := fin Hg (.sub lh th.length 0 (th.length - 1)) _ lg og (fun y hy => (kg y (by omega) (by omega)).trans (mh1.kept y hy)) hFl H2 a2 b2 F2 J m2 K2 s2 hJ1 hJ2 hJ3 _ rfl
  have l2 := m2.len
  have w1 := m2.at og
  have c2 := K2.cells
  have ca2 := c2.1
  have cb2 := c2.2
  simp only [AV.cell, Value.oneCell'] at ca2 cb2
  simp (disch := (first | omega | (simp only [ls_, la_, lc_, ln_]; first | done | omega))) only [aB_, aj_, aK_, go_sem, reduceEqDiff, Nat.reduceAdd, ↓reduceIte, w1, ca2, cb2, c5_]
  exact hfin
 ·have hz : (x.Held[aD_ x.Held j n s].Count - 1 = 0) = False := eq_false (by omega)
  simp (disch := (first | omega | (simp only [ls_, la_, lc_, ln_]; first | done | omega))) only [af_, aB_, aj_, aK_, ls_, go_sem, reduceEqDiff, Nat.reduceAdd, reduceLeDiff, ↓reduceIte, hr, hpt, hc4, hz, hgs, aX_, Nat.zero_add]
  rw [← f2]
  have kK : KV (h0.length + 2) ((H1 ++ [(⟨.ty 32, 2, [[.own lh th.length, .own la ta.length]]⟩ : Row)]).set lh ⟨.ty 74, 4, th'.map Tr.c⟩) ⟨dd_ x.Held j n s, x.Asks⟩ (.own lh th.length) (.own la ta.length) (aI_ lh th' ++ aI_ la ta) := ⟨_, _, _, _, _, _, by rw [hcut, if_neg h1]; exact B'.kl, rfl⟩
  obtain ⟨Hg, hHg⟩ : ∃ Hg, Hg = ((H1 ++ [(⟨.ty 32, 2, [[.own lh th.length, .own la ta.length]]⟩ : Row)]).set lh ⟨.ty 74, 4, th'.map Tr.c⟩) := ⟨_, rfl⟩
  rw [← hHg] at kK ⊢
  have lg : Hg.length = H1.length + 1 := by rw [hHg]; simp
  have kg : ∀ y, y < H1.length → y ≠ lh → Hg[y]? = H1[y]? := fun y q1 q2 => by
   rw [hHg, af_ (Ne.symm q2), aj_ q1]
  refine gA_ kK (io_ hI) (fun H2 a2 b2 F2 J m2 K2 s2 hJ1 hJ2 hJ3 => ?_)
  have hFl : ∀ y ∈ aI_ lh th' ++ aI_ la ta, h0.length + 2 ≤ y := fun y hy => (mem_append.1 hy).elim (fun w => (low y (.inl (by rw [← f3]; exact w))).1) (fun w => (low y (.inr w)).1)
  have og : Hg[h0.length + 1]? = _ := (kg _ (by omega) (by omega)).trans o1
  have hfin := fin Hg (.own lh th.length) _ lg og (fun y hy => (kg y (by omega) (by omega)).trans (mh1.kept y hy)) hFl H2 a2 b2 F2 J m2 K2 s2 hJ1 hJ2 hJ3 _ rfl
  have l2 := m2.len
  have w1 := m2.at og
  have c2 := K2.cells
  have ca2 := c2.1
  have cb2 := c2.2
  simp only [AV.cell, Value.oneCell'] at ca2 cb2
  simp (disch := (first | omega | (simp only [ls_, la_, lc_, ln_]; first | done | omega))) only [aB_, aj_, aK_, go_sem, reduceEqDiff, Nat.reduceAdd, ↓reduceIte, w1, ca2, cb2, c5_]
  exact hfin
end Go.Proofs.YtodgohgdnmifaaaGreatDoor
