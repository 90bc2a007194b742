/-
 Contracts of functions of this program, over abstract values. Conditions: as each theorem says.
-/
import Derived.Test.YtfplhbjggecnpaaGreatDoorFnWG
namespace Go.Proofs.YtfplhbjggecnpaaGreatDoor
open Go.AW
set_option linter.unusedVariables false
set_option linter.unusedSimpArgs false
set_option maxRecDepth 4000
abbrev cG_ (p : af_ × Int) : AV := .tup [.agg (af_.cells p.1), .val (.int .i64 p.2)]
def em_ (a : AV) : Prop := ∃ b, b.cell = true ∧ ∃ v, a = .tup [.agg [b], .val (.int .i64 v)]
section
variable {lo hi : Nat} {H : List Row} {b : AV} {x : af_}
theorem cA_ (hF : aF_ lo hi H (.agg [b]) (.agg (af_.cells x))) (h : lo ≤ hi) (v : Int) : aF_ lo hi H (.tup [.agg [b], .val (.int .i64 v)]) (cG_ (x, v)) :=
 aF_.tup (as_.cons hF (as_.val _ (as_.nil _ _ _)) ⟨h, Nat.le_refl _⟩)
theorem fX_ (h : lo ≤ hi) : aF_ lo hi H (.agg [.val (.slice none 0 0)]) (.agg (af_.cells ⟨[]⟩)) := (aF_.agg (as_.cons (aF_.mknil lo lo H 3) (as_.nil _ _ _) ⟨Nat.le_refl _, Nat.le_refl _⟩)).widen (Nat.le_refl _) h
end
def yG_ : LC :=
 .seq (.ops [.s 1 (.box 126 (.tmp 0)), .s 2 (.mov (.const (.bool false)))]) (.seq (.seq (.ops [.fa 3 1 1, .ln 4 3, .fa 5 2 1, .ln 6 5, .c2 7 135 4 6, .nt 8 7]) (.cond (.tmp 8) (.seq (.ops [.s 2 (.mov (.const (.bool
 false)))]) .ret) .skip)) (.seq (.seq (.ops [.fa 9 0 1, .ln 10 9]) (.block 0 (.seq (.ops [.bk 12 .eql false 10 1, .m 11 12]) (.cond (.tmp 11) (.seq (.ops [.fa 13 3 1, .ln 14 13, .s 15 (.lenStr (.tmp 14)), .bk 16 .leq
 false 15 64, .m 2 16]) .ret) (.seq (.ops [.bk 18 .eql false 10 2, .m 17 18]) (.cond (.tmp 17) (.seq (.ops [.fa 19 3 1, .ln 20 19, .s 21 (.bin .eql false (.tmp 20) (.const (.string ⟨#[]⟩))), .m 2 21]) .ret) .skip))))))
 (.seq (.ops [.s 2 (.mov (.const (.bool false)))]) .ret)))
def vx_ : LF := ⟨1, 22, yG_, [.tmp 2]⟩
theorem xL_ : at_ Tryz.prog Tryz.f117 vx_ := ah_
def xE_ : LC :=
 .seq (.ops [.s 1 (.box 126 (.tmp 0)), .s 2 (.mov (.const (.bool false)))]) (.seq (.seq (.ops [.fa 3 1 1, .ln 4 3, .fa 5 2 1, .ln 6 5, .c2 7 118 4 6, .nt 8 7]) (.cond (.tmp 8) (.seq (.ops [.s 2 (.mov (.const (.bool
 false)))]) .ret) .skip)) (.seq (.ops [.fa 9 0 1, .ln 10 9, .bk 11 .eql false 10 1, .m 12 11, .g 13 12 true (.fieldAddr 3 (.tmp 1)), .g 14 12 true (.load none (.tmp 13)), .g 15 12 true (.lenStr (.tmp 14)), .g 16 12 true
 (.bin .leq false (.tmp 15) (.const (.int .i64 64))), .pf 17 12 16, .m 18 17, .g 19 18 false (.fieldAddr 0 (.tmp 1)), .g 20 18 false (.load none (.tmp 19)), .g 21 18 false (.bin .eql false (.tmp 20) (.const (.int .i64
 2))), .g 22 18 false (.mov (.tmp 21)), .g 23 22 true (.fieldAddr 3 (.tmp 1)), .g 24 22 true (.load none (.tmp 23)), .g 25 22 true (.bin .eql false (.tmp 24) (.const (.string ⟨#[]⟩))), .g 26 18 false (.pick (.tmp 22)
 (.tmp 25) (.const (.bool false))), .pt 27 18 26, .m 2 27]) .ret))
def u3_ : LF := ⟨1, 28, xE_, [.tmp 2]⟩
theorem x7_ : at_ Tryz.prog Tryz.f170 u3_ := ah_
theorem kP_ (x : aw_) (hx : aw_.sz x ≤ 1048576) (h : List Row) : aa_ Tryz.prog 117 [.agg (aw_.cells x)] h (.val (.bool (bv_ x))) := by
 refine aj_ mixed Tryz.func117 xL_ rfl rfl ?_ h
 have h1 := aw_.sz_Name hx
 have h2 := aJ_ (aw_.sz_Subs hx)
 simp (disch := omega) only [vx_, yG_, aw_.cells, go_sem, Nat.reduceEqDiff, Nat.reduceAdd, ↓reduceIte]
 refine aa_.call (eC_ _ _ h1 h2 _) ?_
 by_cases ht : eR_ x.Name x.Subs = true
 case neg =>
  have ht' : eR_ x.Name x.Subs = false := by simpa using ht
  simp (disch := omega) only [ht', go_sem, ↓reduceIte]
  exact ad_ (by simp [bv_, ht'])
 by_cases k1 : x.Kind = 1
 ·simp (disch := omega) only [ht, k1, go_sem, Nat.reduceEqDiff, ↓reduceIte]
  exact ad_ (by simp [bv_, ht, k1])
 ·by_cases k2 : x.Kind = 2
  ·simp (disch := omega) only [ht, k2, go_sem, Nat.reduceEqDiff, ↓reduceIte]
   first | (exact ad_ (by simp [bv_, ht, k1, k2])) | (simp (disch := omega) only [Int.reduceEq, go_sem, Nat.reduceEqDiff, ↓reduceIte]; exact ad_ (by simp [bv_, ht, k2]))
  ·simp (disch := omega) only [ht, k1, k2, go_sem, Nat.reduceEqDiff, ↓reduceIte]
   exact ad_ (by simp [bv_, ht, k1, k2])
theorem kD_ (x : aw_) (hx : aw_.sz x ≤ 1048576) (h : List Row) : aa_ Tryz.prog 170 [.agg (aw_.cells x)] h (.val (.bool (bv_ x))) := by
 refine aj_ mixed Tryz.func170 x7_ rfl rfl ?_ h
 have h1 := aw_.sz_Name hx
 have h2 := aJ_ (aw_.sz_Subs hx)
 simp (disch := omega) only [u3_, xE_, aw_.cells, go_sem, Nat.reduceEqDiff, Nat.reduceAdd, ↓reduceIte]
 repeat' (first
  | exact ae_ _ _
  | (refine ad_ ?_; simp only [bv_, *, Bool.true_and, Bool.and_false, Bool.false_and, Bool.true_or, Bool.false_or, decide_true, decide_false, Bool.and_self, Bool.or_self]; done)
  | (refine ad_ ?_; simp [bv_, *]; done)
  | simp (disch := omega) only [go_sem, Nat.reduceEqDiff, ↓reduceIte]
  | (refine aa_.call (ei_ _ _ h1 h2 _) ?_)
  | (refine aa_.q (ei_ _ _ h1 h2 _) ?_)
  | ((first | (apply aR_; assumption) | (apply aQ_; assumption) | (apply a3_; assumption) | (apply a4_; assumption)); intro hb; try simp only [hb])
  | ((first | (apply aG_; assumption) | (apply aE_; assumption) | (apply aL_; assumption) | (apply aM_; assumption)); intro hb; try simp only [hb])
  | ((first | apply av_ | apply ay_ | apply ak_ | apply al_) <;> intro hb <;> (try simp only [hb]) <;> (first | have hp := a1_ hb | have hp := aZ_ hb | have hp := a0_ hb | have hp := a2_ hb | skip)))
def c74 : LC :=
 .seq (.ops [.s 2 (.box 30 (.tmp 0)), .s 4 (.alloc 30 (.agg #[.slice none 0 0])), .ki 5 0]) (.seq (.block 0 (.seq (.ops [.ld 11 1 2, .c1 12 47 11, .nt 13 12, .m 10 13]) (.cond (.tmp 10) (.seq (.ops [.s 14 (.build (.agg
 #[.slice none 0 0]) [(0, 1)] []), .st 1 4 14, .ki 5 1]) .ret) (.seq (.ops [.m 16 1, .ll 17 16, .bk 18 .gtr false 17 120, .m 15 18]) (.cond (.tmp 15) (.seq (.ops [.s 19 (.build (.agg #[.slice none 0 0]) [(0, 1)] []), .st
 1 4 19, .ki 5 4]) .ret) .skip))))) (.seq (.ops [.ld 20 1 2, .c1 21 49 20, .s 6 (.alloc 30 (.agg #[.slice none 0 0])), .st 1 6 21]) (.seq (.seq (.ops [.m 22 1, .ll 23 22, .ki 24 0]) (.block 1 (.loop (.seq (.ops [.bb 25
 .lss false 24 23]) (.seq (.cond (.tmp 25) .skip (.exit 1)) (.seq (.block 2 (.seq (.ops [.ia 26 4 22 24, .ld 27 4 26, .s 8 (.alloc 126 (.agg #[.int .i64 0, .string ⟨#[]⟩, .slice none 0 0, .string ⟨#[]⟩])), .st 4 8 27])
 (.seq (.seq (.ops [.ld 28 4 8, .c1 29 117 28, .nt 30 29]) (.cond (.tmp 30) (.seq (.ops [.s 31 (.build (.agg #[.slice none 0 0]) [(0, 1)] []), .st 1 4 31, .ki 5 1]) .ret) .skip)) (.seq (.ops [.ld 32 4 8, .c2 33 95 6 32,
 .m 9 33]) (.seq (.ops [.m 34 9, .bk 35 .neq false 34 0]) (.cond (.tmp 35) (.seq (.ops [.s 36 (.build (.agg #[.slice none 0 0]) [(0, 1)] []), .m 37 9, .st 1 4 36, .m 5 37]) .ret) .skip)))))) (.ops [.bk 38 .add false 24 1,
 .m 24 38]))))))) (.seq (.ops [.ld 39 1 6, .st 1 4 39, .ki 5 0]) .ret))))
def xP_ : LF := ⟨2, 40, c74, [.cell 4 (some 1), .tmp 5]⟩
theorem Bz_ : at_ Tryz.prog Tryz.f74 xP_ := ah_
theorem iK_ (x : af_) (cs : List aw_) (hx : af_.sz x ≤ 1048576) (he : ap_ aw_.sz cs ≤ 1048576) : aN_ Tryz.prog 74 [.agg (af_.cells x), .list 0 4 (cs.map aw_.cells)] (cG_ (cZ_ x cs)) em_ := by
 refine cd_ mixed Tryz.func74 Bz_ rfl (fun h0 => ?_)
 have htr : ∀ H, aa_ Tryz.prog 47 [.agg [.list 0 3 (x.Nodes.map ac_.cells)]] H (.val (.bool (aP_ x))) := fun H => io_ x hx H
 have hcp : hp_ Tryz.prog 49 [.agg [.list 0 3 (x.Nodes.map ac_.cells)]] (.agg (af_.cells x)) _ := kh_ x hx
 have hl := aJ_ he
 simp (disch := (first | omega | (simp only [ls_, la_, lc_, ln_]; first | done | omega))) only [a6_, go_sem, Nat.reduceEqDiff, ↓reduceIte, xP_, c74, af_.cells]
 refine aa_.call (htr _) ?_
 by_cases q1 : aP_ x = true
 case neg =>
  have q1' : aP_ x = false := by simpa using q1
  have hR : cZ_ x cs = (⟨[]⟩, 1) := by simp [cZ_, q1']
  simp (disch := (first | omega | (simp only [ls_, la_, lc_, ln_]; first | done | omega))) only [cc_, go_sem, Nat.reduceEqDiff, ↓reduceIte, q1', bA_, Option.map_some, bi_]
  rw [hR]
  exact ⟨⟨by first | exact aI_.app _ _ | exact (aI_.app _ _).set (by omega), cA_ (fX_ (by simp)) (by simp) _⟩, _, rfl, _, rfl⟩
 by_cases q2 : (cs.length : Int) ≤ 120
 case neg =>
  have q2' : ((120 : Int) < (cs.length : Int)) = True := eq_true (by omega)
  have hR : cZ_ x cs = (⟨[]⟩, 4) := by rw [cZ_, if_pos q1, if_neg q2]
  simp (disch := (first | omega | (simp only [ls_, la_, lc_, ln_]; first | done | omega))) only [cc_, go_sem, Nat.reduceEqDiff, ↓reduceIte, q1, q2', bA_, Option.map_some, bi_]
  rw [hR]
  exact ⟨⟨by first | exact aI_.app _ _ | exact (aI_.app _ _).set (by omega), cA_ (fX_ (by simp)) (by simp) _⟩, _, rfl, _, rfl⟩
 have q2' : ((120 : Int) < (cs.length : Int)) = False := eq_false (by omega)
 have hR : cZ_ x cs = dv_ x cs := by rw [cZ_, if_pos q1, if_pos q2]
 rw [hR]
 simp (disch := (first | omega | (simp only [ls_, la_, lc_, ln_]; first | done | omega))) only [a6_, go_sem, Nat.reduceEqDiff, ↓reduceIte, q1, q2']
 refine hcp _ _ (fun av H1 m1 F1 q3 => ?_)
 obtain ⟨l, rfl, es1, hrow⟩ := q3
 have l1 := m1.len
 have p1 := m1.at (i := h0.length + 1) (by rw [cH_]; rfl)
 simp only [la_, lc_, ln_] at l1
 have m0 : aI_ h0 H1 := (aI_.app h0 _).trans m1
 have hrl := (List.getElem?_eq_some_iff.1 hrow).1
 have B0 : eg_ H1.length (h0.length + 2) (H1 ++ [⟨30, 1, [[.own l x.Nodes.length]]⟩]) x := eg_.of (hi := H1.length) (a6_ rfl) (by omega) (Nat.le_refl _) ((F1.tree.keep fun y _ q => aS_ q).widen (by simp) (Nat.le_refl _)) ((aS_ hrl).trans hrow)
 simp (disch := (first | omega | (simp only [ls_, la_, lc_, ln_]; first | done | omega))) only [a6_, go_sem, Nat.reduceEqDiff, ↓reduceIte]
 refine aK_ (fun n t h => ∃ (k : Nat) (y : af_), t 4 = .ptr (h0.length + 1) 1 0 0 ∧ t 6 = .ptr H1.length 1 0 0 ∧ t 22 = .list 0 4 (cs.map aw_.cells) ∧ t 23 = .val (.int .i64 cs.length) ∧ t 24 = .val (.int .i64 k) ∧ aI_ h0 h ∧ h[h0.length + 1]? = some ⟨30, 1, [[.val (.slice none 0 0)]]⟩ ∧
  eg_ H1.length (h0.length + 2) h y ∧ aP_ y = true ∧ dv_ x cs = dv_ y (cs.drop k) ∧ n = cs.length - k ∧ k ≤ cs.length) cs.length ?_ ?_
 ·refine ⟨0, x, rfl, rfl, rfl, rfl, rfl, ?_, ?_, ?_, q1, rfl, rfl, Nat.zero_le _⟩
  ·first | exact m0.add _ | exact (m0.add _).set (by omega)
  ·(repeat (first | rw [a9_ (by omega)] | rw [aS_ (by first | omega | (simp only [ls_, la_, lc_, ln_]; omega))])); exact p1
  ·first | exact B0 | (refine cast ?_ B0; congr 1; simp)
 rintro J hJ n t h ⟨k, y, t4, t6, t22, t23, t24, hM, o1, B, hy, hS, rfl, hk⟩
 have ml := hM.len
 have hlow := B.low
 have hol := (List.getElem?_eq_some_iff.1 o1).1
 by_cases hlt : k < cs.length
 ·have hzk : aw_.sz cs[k] ≤ 1048576 := dH_ he (List.getElem_mem hlt)
  have hok : ∀ H, aa_ Tryz.prog 117 [.agg [.val (.int .i64 cs[k].Kind), .val (.string cs[k].Name), .list 0 1 (cs[k].Subs.map ar_), .val (.string cs[k].Value)]] H (.val (.bool (bv_ cs[k]))) := fun H => kP_ cs[k] hzk H
  simp (disch := (first | omega | (simp only [ls_, la_, lc_, ln_]; first | done | omega))) only [a6_, go_sem, Nat.reduceEqDiff, Nat.reduceAdd, ↓reduceIte, t22, t23, t24, hlt, aw_.cells]
  refine aa_.call (hok _) ?_
  by_cases hc0 : bv_ cs[k] = true
  case neg =>
   have hc0' : bv_ cs[k] = false := by simpa using hc0
   simp (disch := (first | omega | (simp only [ls_, la_, lc_, ln_]; first | done | omega))) only [bf_, aS_, go_sem, Nat.reduceEqDiff, ↓reduceIte, t4, o1, hc0', bA_, Option.map_some, bi_]
   rw [hS, ty_ hlt hc0']
   exact ⟨⟨by first | exact (hM.add _).set (by omega) | exact ((hM.add _).set (by omega)).set (by omega), cA_ (fX_ (by simp; omega)) (by simp; omega) _⟩, _, rfl, _, rfl⟩
  simp (disch := (first | omega | (simp only [ls_, la_, lc_, ln_]; first | done | omega))) only [a6_, go_sem, Nat.reduceEqDiff, Nat.reduceAdd, ↓reduceIte, t6, hc0]
  refine iw_ B (by first | exact aI_.app _ _ | exact (aI_.app _ _).set (by simp)) cs[k] hy (aw_.sz_Subs hzk) (.inl rfl) (fun _ _ => bR_.same rfl) (fun H2 k1 k2 k3 => ?_)
  simp only [la_, lc_, ln_] at k1
  have o2 : H2[h0.length + 1]? = some ⟨30, 1, [[.val (.slice none 0 0)]]⟩ := by
   rw [k2 _ (by omega)]; (repeat (first | rw [a9_ (by omega)] | rw [aS_ (by first | omega | (simp only [ls_, la_, lc_, ln_]; omega))])); exact o1
  have hM2 : aI_ h0 H2 := ⟨by omega, fun z q => by
   rw [k2 z (by omega)]; (repeat (first | rw [a9_ (by omega)] | rw [aS_ (by first | omega | (simp only [ls_, la_, lc_, ln_]; omega))])); exact hM.kept z q⟩
  by_cases hc : (bx_ y cs[k]).2 = 0
  ·simp (disch := (first | omega | (simp only [ls_, la_, lc_, ln_]; first | done | omega))) only [go_sem, Nat.reduceEqDiff, ↓reduceIte, t24, hc]
   exact ⟨cs.length - (k + 1), by omega, hJ _ _ _ ⟨k + 1, (bx_ y cs[k]).1, by simp [upd, t4], by simp [upd, t6], by simp [upd, t22], by simp [upd, t23], by simp [upd], hM2, o2, k3 hc, i2_ hy hc0, by rw [hS, se_ hlt hc0 hc], rfl, by omega⟩⟩
  ·have hc' : ((bx_ y cs[k]).2 = 0) = False := eq_false hc
   simp (disch := (first | omega | (simp only [ls_, la_, lc_, ln_]; first | done | omega))) only [bf_, go_sem, Nat.reduceEqDiff, ↓reduceIte, t4, o2, hc', bA_, Option.map_some, bi_]
   rw [hS, r4_ hlt hc0 hc]
   exact ⟨⟨by first | exact hM2 | exact hM2.set (by omega), cA_ (fX_ (by simp; omega)) (by simp; omega) _⟩, _, rfl, _, rfl⟩
 ·obtain ⟨a, o, ca, hF⟩ := B.arg
  have ca' := ca
  simp only [AV.cell, Value.oneCell'] at ca'
  simp (disch := (first | omega | (simp only [ls_, la_, lc_, ln_]; first | done | omega))) only [bf_, go_sem, Nat.reduceEqDiff, ↓reduceIte, t4, t6, t23, t24, o, o1, ca', hlt, bi_]
  rw [hS, nN_ (by omega)]
  exact ⟨⟨hM.set (by omega), cA_ ((hF.keep fun z q _ => a9_ (by omega)).widen (by omega) (by simp)) (by simp; omega) _⟩, _, ca, _, rfl⟩
def bC_ (x : af_) (t : ax_) : af_ × Int := if (aP_ x && dg_ t) = true then cZ_ x (bW_ t.Events) else (⟨[]⟩, 1)
theorem t2_ (x : af_) (t : ax_) : af_.sz (bC_ x t).1 ≤ 1048576 := by
 unfold bC_
 split
 ·exact t5_ _ _
 ·exact cX_ eE_
structure iv_ (L lo : Nat) (H : List Row) (x : af_) : Prop where
 out : ∃ (a : AV) (p q : Nat), H[L]? = some ⟨30, 1, [[a]]⟩ ∧ a.cell = true ∧ lo ≤ p ∧ p ≤ q ∧ q ≤ H.length ∧ (q ≤ L ∨ L < p) ∧ aF_ p q H (.agg [a]) (.agg (af_.cells x))
section
variable {L lo : Nat} {H H' : List Row} {x : af_}
theorem iv_.keep (T : iv_ L lo H x) (hL : lo ≤ L) (hk : ∀ y, lo ≤ y → y < H.length → H'[y]? = H[y]?) (hl : H.length ≤ H'.length) : iv_ L lo H' x := by
 obtain ⟨a, p, q, o, ca, h1, h2, h3, h4, h5⟩ := T
 exact ⟨a, p, q, (hk L hL (List.getElem?_eq_some_iff.1 o).1).trans o, ca, h1, h2, by omega, h4, h5.keep fun y q1 q2 => hk y (by omega) (by omega)⟩
theorem iv_.lt (T : iv_ L lo H x) : L < H.length := by
 obtain ⟨a, p, q, o, _⟩ := T
 exact (List.getElem?_eq_some_iff.1 o).1
end
def c36 : LC :=
 .seq (.ops [.s 2 (.box 30 (.tmp 0)), .s 3 (.box 65 (.tmp 1)), .s 4 (.alloc 30 (.agg #[.slice none 0 0])), .ki 5 0]) (.seq (.seq (.ops [.ld 6 1 2, .c1 7 47 6, .nt 8 7, .m 9 8, .g 10 9 false (.load (some 3) (.tmp 3)), .g
 11 9 false (.call 73 [.tmp 10]), .g 12 9 false (.un .not (.tmp 11)), .pt 13 9 12]) (.cond (.tmp 13) (.seq (.ops [.s 14 (.build (.agg #[.slice none 0 0]) [(0, 1)] []), .st 1 4 14, .ki 5 1]) .ret) .skip)) (.seq (.gops [.ld
 15 1 2, .fa 16 2 3, .ln 17 16] [(.c1 18 75 17, [.ld 15 1 2]), (.c2 19 74 15 18, []), (.ex 20 19 0, []), (.ex 21 19 1, []), (.st 1 4 20, []), (.m 5 21, [])]) .ret))
def Al_ : LF := ⟨2, 22, c36, [.cell 4 (some 1), .tmp 5]⟩
theorem A0_ : at_ Tryz.prog Tryz.f36 Al_ := ah_
theorem e3_ (x : af_) (t : ax_) (hx : af_.sz x ≤ 1048576) (ht : ax_.sz t ≤ 1048576) : aN_ Tryz.prog 36 [.agg (af_.cells x), .agg (ax_.cells t)] (cG_ (bC_ x t)) em_ := by
 refine cd_ mixed Tryz.func36 A0_ rfl (fun h0 => ?_)
 have htr : ∀ H, aa_ Tryz.prog 47 [.agg [.list 0 3 (x.Nodes.map ac_.cells)]] H (.val (.bool (aP_ x))) := fun H => io_ x hx H
 have hto : ∀ H, aa_ Tryz.prog 73 [.agg [.val (.int .i64 t.Depth), .val (.int .i64 t.Restarts), .list 0 5 (t.Events.map ab_.cells)]] H (.val (.bool (dg_ t))) := fun H => lh_ t ht H
 simp (disch := (first | omega | (simp only [ls_, la_, lc_, ln_]; first | done | omega))) only [a6_, go_sem, Nat.reduceEqDiff, Nat.reduceAdd, ↓reduceIte, Al_, c36, af_.cells, ax_.cells]
 refine aa_.call (htr _) ?_
 by_cases q1 : aP_ x = true
 case neg =>
  have q1' : aP_ x = false := by simpa using q1
  have hR : bC_ x t = (⟨[]⟩, 1) := by simp [bC_, q1']
  simp (disch := (first | omega | (simp only [ls_, la_, lc_, ln_]; first | done | omega))) only [fB_, go_sem, Nat.reduceEqDiff, ↓reduceIte, q1', bA_, Option.map_some, bi_]
  rw [hR]
  exact ⟨⟨by first | exact aI_.app _ _ | exact (aI_.app _ _).set (by omega), cA_ (fX_ (by simp)) (by simp) _⟩, _, rfl, _, rfl⟩
 simp (disch := (first | omega | (simp only [ls_, la_, lc_, ln_]; first | done | omega))) only [cc_, go_sem, Nat.reduceEqDiff, Nat.reduceAdd, ↓reduceIte, q1]
 refine aa_.call (hto _) ?_
 by_cases q2 : dg_ t = true
 case neg =>
  have q2' : dg_ t = false := by simpa using q2
  have hR : bC_ x t = (⟨[]⟩, 1) := by simp [bC_, q2']
  simp (disch := (first | omega | (simp only [ls_, la_, lc_, ln_]; first | done | omega))) only [fB_, go_sem, Nat.reduceEqDiff, ↓reduceIte, q2', bA_, Option.map_some, bi_]
  rw [hR]
  exact ⟨⟨by first | exact aI_.app _ _ | exact (aI_.app _ _).set (by omega), cA_ (fX_ (by simp)) (by simp) _⟩, _, rfl, _, rfl⟩
 have hR : bC_ x t = cZ_ x (bW_ t.Events) := by simp [bC_, q1, q2]
 rw [hR]
 have hze := ax_.sz_Events ht
 simp (disch := (first | omega | (simp only [ls_, la_, lc_, ln_]; first | done | omega))) only [a6_, cc_, go_sem, Nat.reduceEqDiff, ↓reduceIte, q2]
 refine b0_ (iP_ t.Events hze) (fun av H1 m1 F1 q3 => ?_)
 obtain ⟨l, rfl⟩ := q3
 have l1 := m1.len
 simp only [la_, lc_, ln_] at l1
 have p0 := m1.at (i := h0.length) (by rw [cP_]; rfl)
 have p2 := m1.at (i := h0.length + 2) (by rw [cH_]; rfl)
 simp (disch := (first | omega | (simp only [ls_, la_, lc_, ln_]; first | done | omega))) only [go_sem, Nat.reduceEqDiff, ↓reduceIte, p0]
 refine fE_ (iK_ x (bW_ t.Events) hx (Nat.le_trans (oi_ _) hze)) (bj_.cons (cw_.same rfl) (bj_.cons F1.arg.any bj_.nil)) (fun av H2 m2 F2 q4 => ?_)
 obtain ⟨b, cb, v, rfl⟩ := q4
 obtain ⟨G, hv⟩ := F2.two
 simp only [AV.val.injEq, Value.int.injEq, true_and] at hv
 subst hv
 have cb' := cb
 simp only [AV.cell, Value.oneCell'] at cb'
 have l2 := m2.len
 have p3 := m2.at p2
 simp (disch := (first | omega | (simp only [ls_, la_, lc_, ln_]; first | done | omega))) only [bf_, go_sem, Nat.reduceEqDiff, ↓reduceIte, p3, cb', bi_]
 exact ⟨⟨(((aI_.app h0 _).trans m1).trans m2).set (by omega), cA_ ((G.tree.keep fun z q _ => a9_ (by omega)).widen (by omega) (by simp)) (by simp; omega) _⟩, _, cb, _, rfl⟩
def zc_ : LC :=
 .seq (.ops [.s 4 (.box 30 (.tmp 0)), .s 8 (.alloc 30 (.agg #[.slice none 0 0])), .ki 9 0]) (.seq (.ops [.ld 14 1 4, .m 15 1, .m 16 2, .c3 17 165 14 15 16, .m 13 17, .ex 18 13 0, .ex 19 13 1, .m 10 18, .m 11 19]) (.seq
 (.seq (.ops [.m 20 11, .nt 21 20, .m 22 21, .g 23 22 true (.fieldAddr 0 (.tmp 4)), .g 24 22 true (.load none (.tmp 23)), .g 25 22 true (.lenSl (.tmp 24)), .g 26 22 true (.bin .geq false (.tmp 25) (.const (.int .i64
 120))), .pf 27 22 26]) (.cond (.tmp 27) (.seq (.ops [.s 28 (.build (.agg #[.slice none 0 0]) [(0, 1)] []), .st 1 8 28, .ki 9 4]) .ret) .skip)) (.seq (.ops [.s 29 (.buildSlice 112 3 (.agg #[.string ⟨#[]⟩, .slice none 0 0,
 .string ⟨#[]⟩]) 0 []), .fa 30 0 4, .ln 31 30, .m 32 10, .s 33 (.sliceSl 3 (.tmp 31) none (some (.tmp 32))), .ap 34 112 3 56 29 33, .m 12 34]) (.seq (.ops [.m 35 12, .m 36 1, .m 37 2, .m 38 3, .s 39 (.build (.agg
 #[.string ⟨#[]⟩, .slice none 0 0, .string ⟨#[]⟩]) [(0, 1), (1, 1), (2, 1)] [(0, .tmp 36), (1, .tmp 37), (2, .tmp 38)]), .s 40 (.buildSlice 112 3 (.agg #[.string ⟨#[]⟩, .slice none 0 0, .string ⟨#[]⟩]) 1 [(0, .tmp 39)]),
 .ap 41 112 3 56 35 40, .m 12 41]) (.seq (.seq (.ops [.m 42 11]) (.cond (.tmp 42) (.ops [.m 43 10, .bk 44 .add false 43 1, .m 10 44]) .skip)) (.seq (.ops [.m 45 12, .fa 46 0 4, .ln 47 46, .m 48 10, .s 49 (.sliceSl 3 (.tmp
 47) (some (.tmp 48)) none), .ap 50 112 3 56 45 49, .c1 51 157 50, .s 52 (.build (.agg #[.slice none 0 0]) [(0, 1)] [(0, .tmp 51)]), .st 1 8 52, .ki 9 0]) .ret))))))
def vd_ : LF := ⟨4, 53, zc_, [.cell 8 (some 1), .tmp 9]⟩
theorem yk_ : at_ Tryz.prog Tryz.f201 vd_ := ah_
theorem qh_ (ns : List ac_) : ∀ e ∈ ns.map ac_.cells, e.all AV.cell = true := by
 intro e he
 obtain ⟨x, _, q⟩ := List.mem_map.1 he; subst q
 rfl
theorem kc_ (x : af_) (n : ByteArray) (s : List ByteArray) (v : ByteArray) (hx : aP_ x = true) (ht : eR_ n s = true) (hv : v.size ≤ 64) (hs : ap_ ByteArray.size s ≤ 1048576) : aN_ Tryz.prog 201 [.agg (af_.cells x), .val (.string n), .list 0 1 (s.map ar_), .val (.string v)] (cG_ (if c9_ x n s = 0 then ⟨dr_ x.Nodes n s v⟩ else ⟨[]⟩, c9_ x n s)) em_ := by
 refine cd_ mixed Tryz.func201 yk_ rfl (fun h0 => ?_)
 have hat : ∀ H, aa_ Tryz.prog 165 [.agg [.list 0 3 (x.Nodes.map ac_.cells)], .val (.string n), .list 0 1 (s.map ar_)] H (.tup [.val (.int .i64 (bo_ x.Nodes n s)), .val (.bool (bB_ x.Nodes n s))]) := fun H => nd_ x n s (cX_ hx) hs H
 have hxl := gS_ hx
 have hpl := j8_ x.Nodes n s
 have hcv := qh_ x.Nodes
 simp (disch := (first | omega | (simp only [ls_, la_, lc_, ln_]; first | done | omega))) only [a6_, go_sem, Nat.reduceEqDiff, ↓reduceIte, vd_, zc_, af_.cells]
 refine aa_.call (hat _) ?_
 generalize hH : (h0 ++ [⟨30, 1, [[.list 0 3 (x.Nodes.map ac_.cells)]]⟩, ⟨30, 1, [[.val (.slice none 0 0)]]⟩] : List Row) = H
 have o0 : H[h0.length]? = some ⟨30, 1, [[.list 0 3 (x.Nodes.map ac_.cells)]]⟩ := by rw [← hH, cP_]; rfl
 have o1 : H[h0.length + 1]? = some ⟨30, 1, [[.val (.slice none 0 0)]]⟩ := by rw [← hH, cH_]; rfl
 have hl : H.length = h0.length + 2 := by rw [← hH]; simp
 have hM : aI_ h0 H := by rw [← hH]; exact aI_.app _ _
 clear hH
 have fin : c9_ x n s = 0 → ∀ (H' : List Row) (es : List (List AV)) (k : Nat) (K : AV → List Row → Prop), aI_ H H' → H.length < H'.length → H'[H.length]? = some ⟨112, 3, es⟩ → es = (dr_ x.Nodes n s v).map ac_.cells → k = (dr_ x.Nodes n s v).length →
  (∀ (l : Nat) (H1 : List Row), aI_ H' H1 → FB H'.length H1.length H1 (.own l (dr_ x.Nodes n s v).length) (.list 0 3 ((dr_ x.Nodes n s v).map ac_.cells)) → K (.own l (dr_ x.Nodes n s v).length) H1) →
  callSem Tryz.prog 157 [.own H.length k] H' K := by
  intro hC H' es k K hM' hHl o2 he hk hK
  have hok : aP_ ⟨dr_ x.Nodes n s v⟩ = true := qb_ hx ht hv (by
   unfold c9_ at hC
   split at hC
   ·assumption
   ·cases hC)
  subst he hk
  refine fE_ (e2_ (dr_ x.Nodes n s v) (af_.sz_Nodes (cX_ hok))) (bj_.cons (cw_.res (n := 3) (kb_ o2 (by simp) (m3_ _))) bj_.nil) (fun av H1 m1 F1 q1 => ?_)
  obtain ⟨l, rfl⟩ := q1
  exact hK l H1 m1 F1
 cases hf : bB_ x.Nodes n s
 case true =>
  have hC : c9_ x n s = 0 := by rw [c9_, if_pos (.inl hf)]
  obtain ⟨hp, _, _⟩ := i3_ hf
  have hP : dr_ x.Nodes n s v = x.Nodes.take (bo_ x.Nodes n s) ++ ⟨n, s, v⟩ :: x.Nodes.drop (bo_ x.Nodes n s + 1) := by rw [dr_, if_pos hf]
  rw [hC, if_pos rfl]
  simp (disch := (first | omega | (simp only [ls_, la_, lc_, ln_]; first | done | omega))) only [aS_, a6_, cc_, go_sem, Nat.reduceEqDiff, Nat.reduceAdd, Nat.reduceLeDiff, ↓reduceIte, o0, hpl, bA_, Option.map_some, List.length_map, la_, List.length_take, List.length_drop, lc_, ln_, List.drop_zero, List.nil_append, Nat.zero_add, if_pos]
  have htn : ((bo_ x.Nodes n s : Int) + 1).toNat = bo_ x.Nodes n s + 1 := by omega
  have hML : (x.Nodes.map ac_.cells).length ≤ x.Nodes.length := by simp
  refine ⟨by omega, by omega, fun e he => hcv e (List.mem_of_mem_take he), by omega, by omega, by omega, by omega, fun e he => hcv e (List.mem_of_mem_take (List.mem_of_mem_drop he)), ?_⟩
  refine fin hC _ _ _ _ (aI_.app _ _) (by simp) (a6_ rfl) ?_ ?_ (fun l H1 m1 F1 => ?_)
  ·rw [hP, htn, List.take_of_length_le hML]
   simp only [List.map_append, List.map_cons, List.map_take, List.map_drop]
   rfl
  ·rw [hP, la_, lc_, List.length_take, List.length_drop]; omega
  ·have o2 := m1.at ((aS_ (by omega)).trans o1)
   have l1 := m1.len
   simp only [la_, lc_, ln_] at l1
   simp (disch := (first | omega | (simp only [ls_, la_, lc_, ln_]; first | done | omega))) only [bf_, go_sem, Nat.reduceEqDiff, ↓reduceIte, o2, bA_, Option.map_some, bi_]
   exact ⟨⟨((hM.add _).trans m1).set (by omega), cA_ ((aF_.agg (as_.cons (F1.tree.keep fun z q _ => a9_ (by simp at q; omega)) (as_.nil _ _ _) ⟨by simp; omega, Nat.le_refl _⟩)).widen (by simp; omega) (by simp)) (by simp; omega) _⟩, _, rfl, _, rfl⟩
 case false =>
  by_cases h120 : x.Nodes.length < 120
  ·have hC : c9_ x n s = 0 := by rw [c9_, if_pos (.inr h120)]
   have h120' : ((120 : Int) ≤ (x.Nodes.length : Int)) = False := eq_false (by omega)
   have hP : dr_ x.Nodes n s v = x.Nodes.take (bo_ x.Nodes n s) ++ ⟨n, s, v⟩ :: x.Nodes.drop (bo_ x.Nodes n s) := kU_ hf
   rw [hC, if_pos rfl]
   simp (disch := (first | omega | (simp only [ls_, la_, lc_, ln_]; first | done | omega))) only [aS_, a6_, cc_, go_sem, Nat.reduceEqDiff, Nat.reduceAdd, Nat.reduceLeDiff, ↓reduceIte, o0, hpl, bA_, Option.map_some, List.length_map, la_, List.length_take, List.length_drop, lc_, ln_, List.drop_zero, List.nil_append, Nat.zero_add, h120']
   have hML : (x.Nodes.map ac_.cells).length ≤ x.Nodes.length := by simp
   refine ⟨by omega, by omega, fun e he => hcv e (List.mem_of_mem_take he), by omega, by omega, by omega, by omega, fun e he => hcv e (List.mem_of_mem_take (List.mem_of_mem_drop he)), ?_⟩
   refine fin hC _ _ _ _ (aI_.app _ _) (by simp) (a6_ rfl) ?_ ?_ (fun l H1 m1 F1 => ?_)
   ·rw [hP, List.take_of_length_le hML]
    simp only [List.map_append, List.map_cons, List.map_take, List.map_drop]
    rfl
   ·rw [hP, la_, lc_, List.length_take, List.length_drop]; omega
   ·have o2 := m1.at ((aS_ (by omega)).trans o1)
    have l1 := m1.len
    simp only [la_, lc_, ln_] at l1
    simp (disch := (first | omega | (simp only [ls_, la_, lc_, ln_]; first | done | omega))) only [bf_, go_sem, Nat.reduceEqDiff, ↓reduceIte, o2, bA_, Option.map_some, bi_]
    exact ⟨⟨((hM.add _).trans m1).set (by omega), cA_ ((aF_.agg (as_.cons (F1.tree.keep fun z q _ => a9_ (by simp at q; omega)) (as_.nil _ _ _) ⟨by simp; omega, Nat.le_refl _⟩)).widen (by simp; omega) (by simp)) (by simp; omega) _⟩, _, rfl, _, rfl⟩
  ·have hC : c9_ x n s = 4 := by rw [c9_, if_neg (by rw [hf]; simp; omega)]
   have h120' : ((120 : Int) ≤ (x.Nodes.length : Int)) = True := eq_true (by omega)
   rw [hC, if_neg (by decide)]
   simp (disch := (first | omega | (simp only [ls_, la_, lc_, ln_]; first | done | omega))) only [bf_, go_sem, Nat.reduceEqDiff, ↓reduceIte, o0, o1, List.length_map, h120', bA_, Option.map_some, bi_]
   exact ⟨⟨hM.set (by omega), cA_ (fX_ (by simp; omega)) (by simp; omega) _⟩, _, rfl, _, rfl⟩
def sV_ : LC :=
 .seq (.ops [.s 2 (.box 30 (.tmp 0)), .s 3 (.box 126 (.tmp 1)), .s 4 (.alloc 30 (.agg #[.slice none 0 0])), .ki 5 0]) (.seq (.seq (.ops [.fa 6 0 3, .ln 7 6, .bk 8 .eql false 7 1]) (.cond (.tmp 8) (.seq (.ops [.ld 9 1 2,
 .fa 10 1 3, .ln 11 10, .fa 12 2 3, .ln 13 12, .fa 14 3 3, .ln 15 14, .s 16 (.call 201 [.tmp 9, .tmp 11, .tmp 13, .tmp 15]), .ex 17 16 0, .ex 18 16 1, .st 1 4 17, .m 5 18]) .ret) .skip)) (.seq (.ops [.ld 19 1 2, .fa 20 1
 3, .ln 21 20, .fa 22 2 3, .ln 23 22, .c3 24 202 19 21 23, .st 1 4 24, .ki 5 0]) .ret))
def qj_ : LF := ⟨2, 25, sV_, [.cell 4 (some 1), .tmp 5]⟩
theorem yV_ : at_ Tryz.prog Tryz.f171 qj_ := ah_
theorem kM_ (x : af_) (c : aw_) (hx : aP_ x = true) (hc : bv_ c = true) (hz : aw_.sz c ≤ 1048576) : aN_ Tryz.prog 171 [.agg (af_.cells x), .agg (aw_.cells c)] (cG_ (bx_ x c)) em_ := by
 refine cd_ mixed Tryz.func171 yV_ rfl (fun h0 => ?_)
 have hs := aw_.sz_Subs hz
 have hc2 := hc
 simp only [bv_, Bool.and_eq_true, Bool.or_eq_true, decide_eq_true_eq] at hc2
 by_cases hk1 : c.Kind = 1
 ·have hk1' : (c.Kind = 1) = True := eq_true hk1
  have hv : c.Value.size ≤ 64 := by rcases hc2.2 with ⟨_, q⟩ | ⟨q, _⟩ <;> omega
  have hR : bx_ x c = (if c9_ x c.Name c.Subs = 0 then ⟨dr_ x.Nodes c.Name c.Subs c.Value⟩ else ⟨[]⟩, c9_ x c.Name c.Subs) := by
   unfold bx_ c9_
   rw [if_pos hk1]
   split
   ·rfl
   ·rfl
  have hput : aN_ Tryz.prog 201 [.agg [.list 0 3 (x.Nodes.map ac_.cells)], .val (.string c.Name), .list 0 1 (c.Subs.map ar_), .val (.string c.Value)] (cG_ (bx_ x c)) em_ := by
   rw [hR]; exact kc_ x c.Name c.Subs c.Value hx hc2.1 hv hs
  simp (disch := (first | omega | (simp only [ls_, la_, lc_, ln_]; first | done | omega))) only [a6_, cc_, go_sem, Nat.reduceEqDiff, Nat.reduceAdd, ↓reduceIte, qj_, sV_, af_.cells, aw_.cells, hk1']
  refine b0_ hput (fun av H1 m1 F1 q1 => ?_)
  obtain ⟨b, cb, v, rfl⟩ := q1
  obtain ⟨G, hv⟩ := F1.two
  simp only [AV.val.injEq, Value.int.injEq, true_and] at hv
  subst hv
  have cb' := cb
  simp only [AV.cell, Value.oneCell'] at cb'
  have l1 := m1.len
  simp only [la_, lc_, ln_] at l1
  have p2 := m1.at (i := h0.length + 2) (by rw [cH_]; rfl)
  simp (disch := (first | omega | (simp only [ls_, la_, lc_, ln_]; first | done | omega))) only [bf_, go_sem, Nat.reduceEqDiff, ↓reduceIte, p2, cb', bi_]
  exact ⟨⟨((aI_.app h0 _).trans m1).set (by omega), cA_ ((G.tree.keep fun z q _ => a9_ (by simp at q; omega)).widen (by simp) (by simp)) (by simp; omega) _⟩, _, cb, _, rfl⟩
 ·have hk1' : (c.Kind = 1) = False := eq_false hk1
  have hR : bx_ x c = (⟨cC_ x.Nodes c.Name c.Subs⟩, 0) := by rw [bx_, if_neg hk1]
  have hkill : aN_ Tryz.prog 202 [.agg [.list 0 3 (x.Nodes.map ac_.cells)], .val (.string c.Name), .list 0 1 (c.Subs.map ar_)] (.agg (af_.cells ⟨cC_ x.Nodes c.Name c.Subs⟩)) (fun a => ∃ l, a = .agg [.own l (cC_ x.Nodes c.Name c.Subs).length]) := jz_ x c.Name c.Subs (cX_ hx)
  rw [hR]
  simp (disch := (first | omega | (simp only [ls_, la_, lc_, ln_]; first | done | omega))) only [a6_, cc_, go_sem, Nat.reduceEqDiff, Nat.reduceAdd, ↓reduceIte, qj_, sV_, af_.cells, aw_.cells, hk1']
  refine b0_ hkill (fun av H1 m1 F1 q1 => ?_)
  obtain ⟨l, rfl⟩ := q1
  have l1 := m1.len
  simp only [la_, lc_, ln_] at l1
  have p2 := m1.at (i := h0.length + 2) (by rw [cH_]; rfl)
  simp (disch := (first | omega | (simp only [ls_, la_, lc_, ln_]; first | done | omega))) only [bf_, go_sem, Nat.reduceEqDiff, ↓reduceIte, p2, bi_]
  exact ⟨⟨((aI_.app h0 _).trans m1).set (by omega), cA_ ((F1.tree.keep fun z q _ => a9_ (by simp at q; omega)).widen (by simp) (by simp)) (by simp; omega) _⟩, _, rfl, _, rfl⟩
def ev_ (x : af_) (c : aw_) : af_ × Int := if (aP_ x && bv_ c) = true then bx_ x c else (⟨[]⟩, 1)
def Ao_ : LC :=
 .seq (.ops [.s 2 (.box 30 (.tmp 0)), .s 3 (.box 126 (.tmp 1)), .s 4 (.alloc 30 (.agg #[.slice none 0 0])), .ki 5 0]) (.seq (.seq (.ops [.ld 6 1 2, .c1 7 41 6, .nt 8 7, .m 9 8, .g 10 9 false (.load (some 4) (.tmp 3)), .g
 11 9 false (.call 170 [.tmp 10]), .g 12 9 false (.un .not (.tmp 11)), .pt 13 9 12]) (.cond (.tmp 13) (.seq (.ops [.s 14 (.build (.agg #[.slice none 0 0]) [(0, 1)] []), .st 1 4 14, .ki 5 1]) .ret) .skip)) (.seq (.ops [.ld
 15 1 2, .ld 16 4 3, .c2 17 171 15 16, .ex 18 17 0, .ex 19 17 1, .st 1 4 18, .m 5 19]) .ret))
def vY_ : LF := ⟨2, 20, Ao_, [.cell 4 (some 1), .tmp 5]⟩
theorem yH_ : at_ Tryz.prog Tryz.f133 vY_ := ah_
theorem ji_ (x : af_) (c : aw_) (hx : af_.sz x ≤ 1048576) (hz : aw_.sz c ≤ 1048576) : aN_ Tryz.prog 133 [.agg (af_.cells x), .agg (aw_.cells c)] (cG_ (ev_ x c)) em_ := by
 refine cd_ mixed Tryz.func133 yH_ rfl (fun h0 => ?_)
 have htr : ∀ H, aa_ Tryz.prog 41 [.agg [.list 0 3 (x.Nodes.map ac_.cells)]] H (.val (.bool (aP_ x))) := fun H => f5_ x hx H
 have hch : ∀ H, aa_ Tryz.prog 170 [.agg [.val (.int .i64 c.Kind), .val (.string c.Name), .list 0 1 (c.Subs.map ar_), .val (.string c.Value)]] H (.val (.bool (bv_ c))) := fun H => kD_ c hz H
 simp (disch := (first | omega | (simp only [ls_, la_, lc_, ln_]; first | done | omega))) only [a6_, go_sem, Nat.reduceEqDiff, Nat.reduceAdd, ↓reduceIte, vY_, Ao_, af_.cells, aw_.cells]
 refine aa_.call (htr _) ?_
 by_cases q1 : aP_ x = true
 case neg =>
  have q1' : aP_ x = false := by simpa using q1
  have hR : ev_ x c = (⟨[]⟩, 1) := by simp [ev_, q1']
  simp (disch := (first | omega | (simp only [ls_, la_, lc_, ln_]; first | done | omega))) only [fB_, go_sem, Nat.reduceEqDiff, ↓reduceIte, q1', bA_, Option.map_some, bi_]
  rw [hR]
  exact ⟨⟨by first | exact aI_.app _ _ | exact (aI_.app _ _).set (by omega), cA_ (fX_ (by simp)) (by simp) _⟩, _, rfl, _, rfl⟩
 simp (disch := (first | omega | (simp only [ls_, la_, lc_, ln_]; first | done | omega))) only [cc_, go_sem, Nat.reduceEqDiff, Nat.reduceAdd, ↓reduceIte, q1]
 refine aa_.call (hch _) ?_
 by_cases q2 : bv_ c = true
 case neg =>
  have q2' : bv_ c = false := by simpa using q2
  have hR : ev_ x c = (⟨[]⟩, 1) := by simp [ev_, q2']
  simp (disch := (first | omega | (simp only [ls_, la_, lc_, ln_]; first | done | omega))) only [fB_, go_sem, Nat.reduceEqDiff, ↓reduceIte, q2', bA_, Option.map_some, bi_]
  rw [hR]
  exact ⟨⟨by first | exact aI_.app _ _ | exact (aI_.app _ _).set (by omega), cA_ (fX_ (by simp)) (by simp) _⟩, _, rfl, _, rfl⟩
 have hR : ev_ x c = bx_ x c := by simp [ev_, q1, q2]
 have hdo : aN_ Tryz.prog 171 [.agg [.list 0 3 (x.Nodes.map ac_.cells)], .agg [.val (.int .i64 c.Kind), .val (.string c.Name), .list 0 1 (c.Subs.map ar_), .val (.string c.Value)]] (cG_ (bx_ x c)) em_ := kM_ x c q1 q2 hz
 rw [hR]
 simp (disch := (first | omega | (simp only [ls_, la_, lc_, ln_]; first | done | omega))) only [a6_, cc_, go_sem, Nat.reduceEqDiff, Nat.reduceAdd, ↓reduceIte, q2]
 refine b0_ hdo (fun av H1 m1 F1 q3 => ?_)
 obtain ⟨b, cb, v, rfl⟩ := q3
 obtain ⟨G, hv⟩ := F1.two
 simp only [AV.val.injEq, Value.int.injEq, true_and] at hv
 subst hv
 have cb' := cb
 simp only [AV.cell, Value.oneCell'] at cb'
 have l1 := m1.len
 simp only [la_, lc_, ln_] at l1
 have p2 := m1.at (i := h0.length + 2) (by rw [cH_]; rfl)
 simp (disch := (first | omega | (simp only [ls_, la_, lc_, ln_]; first | done | omega))) only [bf_, go_sem, Nat.reduceEqDiff, ↓reduceIte, p2, cb', bi_]
 exact ⟨⟨((aI_.app h0 _).trans m1).set (by omega), cA_ ((G.tree.keep fun z q _ => a9_ (by simp at q; omega)).widen (by simp) (by simp)) (by simp; omega) _⟩, _, cb, _, rfl⟩
theorem wX_ {y : af_} {c : aw_} (hy : aP_ y = true) : aP_ (ev_ y c).1 = true := by
 unfold ev_
 split
 ·rename_i h
  simp only [Bool.and_eq_true] at h
  exact i2_ hy h.2
 ·exact eE_
theorem wE_ {y : af_} {cs : List aw_} {k : Nat} (hy : aP_ y = true) (h : k < cs.length) : dv_ y (cs.drop k) = if (ev_ y cs[k]).2 = 0 then dv_ (ev_ y cs[k]).1 (cs.drop (k + 1)) else (⟨[]⟩, (ev_ y cs[k]).2) := by
 rw [cn_ h, dv_]
 unfold ev_
 by_cases hc : bv_ cs[k] = true
 ·simp [hy, hc]
 ·have hc' : bv_ cs[k] = false := by simpa using hc
  simp [hc']
def yb_ : LC :=
 .seq (.ops [.s 2 (.box 30 (.tmp 0)), .s 4 (.alloc 30 (.agg #[.slice none 0 0])), .ki 5 0]) (.seq (.seq (.ops [.ld 10 1 2, .c1 11 41 10, .nt 12 11]) (.cond (.tmp 12) (.seq (.ops [.s 13 (.build (.agg #[.slice none 0 0])
 [(0, 1)] []), .st 1 4 13, .ki 5 1]) .ret) .skip)) (.seq (.seq (.ops [.m 14 1, .ll 15 14, .bk 16 .gtr false 15 120]) (.cond (.tmp 16) (.seq (.ops [.s 17 (.build (.agg #[.slice none 0 0]) [(0, 1)] []), .st 1 4 17, .ki 5
 4]) .ret) .skip)) (.seq (.ops [.fa 18 0 2, .ln 19 18, .c1 20 157 19, .s 21 (.build (.agg #[.slice none 0 0]) [(0, 1)] [(0, .tmp 20)]), .s 6 (.alloc 30 (.agg #[.slice none 0 0])), .st 1 6 21]) (.seq (.seq (.ops [.ki 7 0])
 (.block 0 (.loop (.seq (.seq (.ops [.m 22 7, .m 23 1, .ll 24 23, .bb 25 .lss false 22 24]) (.cond (.tmp 25) .skip (.exit 0))) (.seq (.block 1 (.seq (.gops [.ld 29 1 6, .m 30 1, .m 31 7, .ia 32 4 30 31, .ld 33 4 32] [(.c2
 34 133 29 33, []), (.m 28 34, []), (.ex 35 28 0, []), (.ex 36 28 1, []), (.s 8 (.alloc 30 (.agg #[.slice none 0 0])), [.ld 29 1 6, .m 30 1, .m 31 7, .ia 32 4 30 31, .ld 33 4 32]), (.st 1 8 35, []), (.m 9 36, [])]) (.seq
 (.seq (.ops [.m 37 9, .bk 38 .neq false 37 0]) (.cond (.tmp 38) (.seq (.ops [.s 39 (.build (.agg #[.slice none 0 0]) [(0, 1)] []), .m 40 9, .st 1 4 39, .m 5 40]) .ret) .skip)) (.ops [.ld 41 1 8, .st 1 6 41])))) (.ops [.m
 26 7, .bk 27 .add false 26 1, .m 7 27])))))) (.seq (.ops [.ld 42 1 6, .st 1 4 42, .ki 5 0]) .ret)))))
def vz_ : LF := ⟨2, 43, yb_, [.cell 4 (some 1), .tmp 5]⟩
theorem yh_ : at_ Tryz.prog Tryz.f114 vz_ := ah_
theorem iX_ (x : af_) (cs : List aw_) (hx : af_.sz x ≤ 1048576) (he : ap_ aw_.sz cs ≤ 1048576) : aN_ Tryz.prog 114 [.agg (af_.cells x), .list 0 4 (cs.map aw_.cells)] (cG_ (cZ_ x cs)) em_ := by
 refine cd_ mixed Tryz.func114 yh_ rfl (fun h0 => ?_)
 have htr : ∀ H, aa_ Tryz.prog 41 [.agg [.list 0 3 (x.Nodes.map ac_.cells)]] H (.val (.bool (aP_ x))) := fun H => f5_ x hx H
 have hl := aJ_ he
 simp (disch := (first | omega | (simp only [ls_, la_, lc_, ln_]; first | done | omega))) only [a6_, go_sem, Nat.reduceEqDiff, ↓reduceIte, vz_, yb_, af_.cells]
 refine aa_.call (htr _) ?_
 by_cases q1 : aP_ x = true
 case neg =>
  have q1' : aP_ x = false := by simpa using q1
  have hR : cZ_ x cs = (⟨[]⟩, 1) := by simp [cZ_, q1']
  simp (disch := (first | omega | (simp only [ls_, la_, lc_, ln_]; first | done | omega))) only [cc_, go_sem, Nat.reduceEqDiff, ↓reduceIte, q1', bA_, Option.map_some, bi_]
  rw [hR]
  exact ⟨⟨by first | exact aI_.app _ _ | exact (aI_.app _ _).set (by omega), cA_ (fX_ (by simp)) (by simp) _⟩, _, rfl, _, rfl⟩
 by_cases q2 : (cs.length : Int) ≤ 120
 case neg =>
  have q2' : ((120 : Int) < (cs.length : Int)) = True := eq_true (by omega)
  have hR : cZ_ x cs = (⟨[]⟩, 4) := by rw [cZ_, if_pos q1, if_neg q2]
  simp (disch := (first | omega | (simp only [ls_, la_, lc_, ln_]; first | done | omega))) only [cc_, go_sem, Nat.reduceEqDiff, ↓reduceIte, q1, q2', bA_, Option.map_some, bi_]
  rw [hR]
  exact ⟨⟨by first | exact aI_.app _ _ | exact (aI_.app _ _).set (by omega), cA_ (fX_ (by simp)) (by simp) _⟩, _, rfl, _, rfl⟩
 have q2' : ((120 : Int) < (cs.length : Int)) = False := eq_false (by omega)
 have hR : cZ_ x cs = dv_ x cs := by rw [cZ_, if_pos q1, if_pos q2]
 rw [hR]
 simp (disch := (first | omega | (simp only [ls_, la_, lc_, ln_]; first | done | omega))) only [a6_, go_sem, Nat.reduceEqDiff, ↓reduceIte, q1, q2']
 refine b0_ (e2_ x.Nodes (af_.sz_Nodes hx)) (fun av H1 m1 F1 q3 => ?_)
 obtain ⟨l, rfl⟩ := q3
 have l1 := m1.len
 have p1 := m1.at (i := h0.length + 1) (by rw [cH_]; rfl)
 simp only [la_, lc_, ln_] at l1
 have m0 : aI_ h0 H1 := (aI_.app h0 _).trans m1
 have B0 : iv_ H1.length (h0.length + 2) (H1 ++ [⟨30, 1, [[.own l x.Nodes.length]]⟩]) x := ⟨_, h0.length + 2, H1.length, a6_ rfl, rfl, Nat.le_refl _, by omega, by simp, .inl (Nat.le_refl _), (aF_.agg (as_.cons (F1.tree.keep fun y _ q => aS_ q) (as_.nil _ _ _) ⟨by simp; omega, Nat.le_refl _⟩)).widen (by simp) (Nat.le_refl _)⟩
 simp (disch := (first | omega | (simp only [ls_, la_, lc_, ln_]; first | done | omega))) only [a6_, go_sem, Nat.reduceEqDiff, ↓reduceIte, bA_, Option.map_some]
 refine aK_ (fun n t h => ∃ (k : Nat) (y : af_), t 1 = .list 0 4 (cs.map aw_.cells) ∧ t 4 = .ptr (h0.length + 1) 1 0 0 ∧ t 6 = .ptr H1.length 1 0 0 ∧ t 7 = .val (.int .i64 k) ∧ aI_ h0 h ∧ h[h0.length + 1]? = some ⟨30, 1, [[.val (.slice none 0 0)]]⟩ ∧
  iv_ H1.length (h0.length + 2) h y ∧ aP_ y = true ∧ dv_ x cs = dv_ y (cs.drop k) ∧ n = cs.length - k ∧ k ≤ cs.length) cs.length ?_ ?_
 ·refine ⟨0, x, rfl, rfl, rfl, rfl, ?_, ?_, ?_, q1, rfl, rfl, Nat.zero_le _⟩
  ·first | exact m0.add _ | exact (m0.add _).set (by omega)
  ·(repeat (first | rw [a9_ (by omega)] | rw [aS_ (by first | omega | (simp only [ls_, la_, lc_, ln_]; omega))])); exact p1
  ·first | exact B0 | (refine cast ?_ B0; congr 1; simp)
 rintro J hJ n t h ⟨k, y, t1, t4, t6, t7, hM, o1, T, hy, hS, rfl, hk⟩
 have ml := hM.len
 have hlL := T.lt
 obtain ⟨a, p, q, o, ca, z1, z2, z3, z4, hF⟩ := id T
 have hol := (List.getElem?_eq_some_iff.1 o1).1
 have ca' := ca
 simp only [AV.cell, Value.oneCell'] at ca'
 by_cases hlt : k < cs.length
 ·have hzk : aw_.sz cs[k] ≤ 1048576 := dH_ he (List.getElem_mem hlt)
  have hdo : aN_ Tryz.prog 133 [.agg (af_.cells y), .agg [.val (.int .i64 cs[k].Kind), .val (.string cs[k].Name), .list 0 1 (cs[k].Subs.map ar_), .val (.string cs[k].Value)]] (cG_ (ev_ y cs[k])) em_ := ji_ y cs[k] (cX_ hy) hzk
  rw [wE_ hy hlt] at hS
  simp (disch := (first | omega | (simp only [ls_, la_, lc_, ln_]; first | done | omega))) only [go_sem, Nat.reduceEqDiff, Nat.reduceAdd, ↓reduceIte, t1, t6, t7, o, hlt, aw_.cells]
  refine fE_ hdo (bj_.cons hF.arg.any (bj_.cons (cw_.same rfl) bj_.nil)) (fun av H2 m2 F2 q3 => ?_)
  obtain ⟨b, cb, v, rfl⟩ := q3
  obtain ⟨G, hv⟩ := F2.two
  simp only [AV.val.injEq, Value.int.injEq, true_and] at hv
  subst hv
  have l2 := m2.len
  have cb' := cb
  simp only [AV.cell, Value.oneCell'] at cb'
  have o2 := m2.at o1
  have o3 := m2.at o
  have hM2 : aI_ h0 H2 := hM.trans m2
  by_cases hc : (ev_ y cs[k]).2 = 0
  ·rw [if_pos hc] at hS
   simp (disch := (first | omega | (simp only [ls_, la_, lc_, ln_]; first | done | omega))) only [aS_, a6_, go_sem, Nat.reduceEqDiff, Nat.reduceAdd, ↓reduceIte, t1, t6, t7, o3, cb', hc]
   refine ⟨rfl, cs.length - (k + 1), by omega, hJ _ _ _ ⟨k + 1, (ev_ y cs[k]).1, by simp [upd, t1], by simp [upd, t4], by simp [upd, t6], by simp [upd], ?_, ?_, ?_, wX_ hy, hS, rfl, by omega⟩⟩
   ·first | exact (hM2.add _).set (by omega) | exact ((hM2.add _).set (by omega)).set (by omega) | exact (hM2.set (by omega)).add _
   ·(repeat (first | rw [a9_ (by omega)] | rw [aS_ (by first | omega | (simp only [ls_, la_, lc_, ln_]; omega))])); exact o2
   ·refine ⟨b, h.length, H2.length, ?_, cb, by omega, by omega, by simp, .inr (by omega), (G.tree.keep fun z q1 q2 => by (repeat (first | rw [a9_ (by omega)] | rw [aS_ (by first | omega | (simp only [ls_, la_, lc_, ln_]; omega))])))⟩
    first | exact bf_ (by simp; omega) | (rw [a9_ (by omega)]; exact bf_ (by simp; omega)) | (rw [aS_ (by simp; omega)]; exact bf_ (by omega))
  ·rw [if_neg hc] at hS
   have hc' : ((ev_ y cs[k]).2 = 0) = False := eq_false hc
   simp (disch := (first | omega | (simp only [ls_, la_, lc_, ln_]; first | done | omega))) only [bf_, aS_, a6_, go_sem, Nat.reduceEqDiff, Nat.reduceAdd, ↓reduceIte, t1, t4, t6, t7, o2, o3, cb', hc', bA_, Option.map_some, bi_]
   rw [hS]
   refine ⟨rfl, ?_⟩
   exact ⟨⟨by first | exact (hM2.add _).set (by omega) | exact ((hM2.add _).set (by omega)).set (by omega) | exact hM2.add _, cA_ (fX_ (by simp; omega)) (by simp; omega) _⟩, _, rfl, _, rfl⟩
 ·simp (disch := (first | omega | (simp only [ls_, la_, lc_, ln_]; first | done | omega))) only [bf_, go_sem, Nat.reduceEqDiff, ↓reduceIte, t1, t4, t6, t7, o, o1, ca', hlt, bi_]
  rw [hS, nN_ (by omega)]
  exact ⟨⟨hM.set (by omega), cA_ ((hF.keep fun z q _ => a9_ (by omega)).widen (by omega) (by simp; omega)) (by simp; omega) _⟩, _, ca, _, rfl⟩
def c72 : LC :=
 .seq (.ops [.s 2 (.box 30 (.tmp 0)), .s 4 (.alloc 30 (.agg #[.slice none 0 0])), .ki 5 0]) (.seq (.gops [.ld 6 1 2, .m 7 1] [(.c1 8 115 7, [.ld 6 1 2]), (.c2 9 114 6 8, []), (.ex 10 9 0, []), (.ex 11 9 1, []), (.st 1 4
 10, []), (.m 5 11, [])]) .ret)
def zh_ : LF := ⟨2, 12, c72, [.cell 4 (some 1), .tmp 5]⟩
theorem AU_ : at_ Tryz.prog Tryz.f72 zh_ := ah_
theorem jA_ (x : af_) (es : List ab_) (hx : af_.sz x ≤ 1048576) (he : ap_ ab_.sz es ≤ 1048576) : aN_ Tryz.prog 72 [.agg (af_.cells x), .list 0 5 (es.map ab_.cells)] (cG_ (cZ_ x (bW_ es))) em_ := by
 refine cd_ mixed Tryz.func72 AU_ rfl (fun h0 => ?_)
 simp (disch := (first | omega | (simp only [ls_, la_, lc_, ln_]; first | done | omega))) only [a6_, go_sem, Nat.reduceEqDiff, ↓reduceIte, zh_, c72, af_.cells]
 refine b0_ (ik_ es he) (fun av H1 m1 F1 q3 => ?_)
 obtain ⟨l, rfl⟩ := q3
 have l1 := m1.len
 simp only [la_, lc_, ln_] at l1
 have p0 := m1.at (i := h0.length) (by rw [cP_]; rfl)
 have p2 := m1.at (i := h0.length + 1) (by rw [cH_]; rfl)
 simp (disch := (first | omega | (simp only [ls_, la_, lc_, ln_]; first | done | omega))) only [go_sem, Nat.reduceEqDiff, ↓reduceIte, p0]
 refine fE_ (iX_ x (bW_ es) hx (Nat.le_trans (oi_ _) he)) (bj_.cons (cw_.same rfl) (bj_.cons F1.arg.any bj_.nil)) (fun av H2 m2 F2 q4 => ?_)
 obtain ⟨b, cb, v, rfl⟩ := q4
 obtain ⟨G, hv⟩ := F2.two
 simp only [AV.val.injEq, Value.int.injEq, true_and] at hv
 subst hv
 have cb' := cb
 simp only [AV.cell, Value.oneCell'] at cb'
 have l2 := m2.len
 have p3 := m2.at p2
 simp (disch := (first | omega | (simp only [ls_, la_, lc_, ln_]; first | done | omega))) only [bf_, go_sem, Nat.reduceEqDiff, ↓reduceIte, p3, cb', bi_]
 exact ⟨⟨(((aI_.app h0 _).trans m1).trans m2).set (by omega), cA_ ((G.tree.keep fun z q _ => a9_ (by omega)).widen (by omega) (by simp)) (by simp; omega) _⟩, _, cb, _, rfl⟩
def c34 : LC :=
 .seq (.ops [.s 2 (.box 30 (.tmp 0)), .s 3 (.box 65 (.tmp 1)), .s 4 (.alloc 30 (.agg #[.slice none 0 0])), .ki 5 0]) (.seq (.seq (.ops [.ld 6 1 2, .c1 7 41 6, .nt 8 7, .m 9 8, .g 10 9 false (.load (some 3) (.tmp 3)), .g
 11 9 false (.call 71 [.tmp 10]), .g 12 9 false (.un .not (.tmp 11)), .pt 13 9 12]) (.cond (.tmp 13) (.seq (.ops [.s 14 (.build (.agg #[.slice none 0 0]) [(0, 1)] []), .st 1 4 14, .ki 5 1]) .ret) .skip)) (.seq (.ops [.ld
 15 1 2, .fa 16 2 3, .ln 17 16, .c2 18 72 15 17, .ex 19 18 0, .ex 20 18 1, .st 1 4 19, .m 5 20]) .ret))
def Ax_ : LF := ⟨2, 21, c34, [.cell 4 (some 1), .tmp 5]⟩
theorem Bq_ : at_ Tryz.prog Tryz.f34 Ax_ := ah_
theorem kd_ (x : af_) (t : ax_) (hx : af_.sz x ≤ 1048576) (ht : ax_.sz t ≤ 1048576) : aN_ Tryz.prog 34 [.agg (af_.cells x), .agg (ax_.cells t)] (cG_ (bC_ x t)) em_ := by
 refine cd_ mixed Tryz.func34 Bq_ rfl (fun h0 => ?_)
 have htr : ∀ H, aa_ Tryz.prog 41 [.agg [.list 0 3 (x.Nodes.map ac_.cells)]] H (.val (.bool (aP_ x))) := fun H => f5_ x hx H
 have hto : ∀ H, aa_ Tryz.prog 71 [.agg [.val (.int .i64 t.Depth), .val (.int .i64 t.Restarts), .list 0 5 (t.Events.map ab_.cells)]] H (.val (.bool (dg_ t))) := fun H => lb_ t ht H
 simp (disch := (first | omega | (simp only [ls_, la_, lc_, ln_]; first | done | omega))) only [a6_, go_sem, Nat.reduceEqDiff, Nat.reduceAdd, ↓reduceIte, Ax_, c34, af_.cells, ax_.cells]
 refine aa_.call (htr _) ?_
 by_cases q1 : aP_ x = true
 case neg =>
  have q1' : aP_ x = false := by simpa using q1
  have hR : bC_ x t = (⟨[]⟩, 1) := by simp [bC_, q1']
  simp (disch := (first | omega | (simp only [ls_, la_, lc_, ln_]; first | done | omega))) only [fB_, go_sem, Nat.reduceEqDiff, ↓reduceIte, q1', bA_, Option.map_some, bi_]
  rw [hR]
  exact ⟨⟨by first | exact aI_.app _ _ | exact (aI_.app _ _).set (by omega), cA_ (fX_ (by simp)) (by simp) _⟩, _, rfl, _, rfl⟩
 simp (disch := (first | omega | (simp only [ls_, la_, lc_, ln_]; first | done | omega))) only [cc_, go_sem, Nat.reduceEqDiff, Nat.reduceAdd, ↓reduceIte, q1]
 refine aa_.call (hto _) ?_
 by_cases q2 : dg_ t = true
 case neg =>
  have q2' : dg_ t = false := by simpa using q2
  have hR : bC_ x t = (⟨[]⟩, 1) := by simp [bC_, q2']
  simp (disch := (first | omega | (simp only [ls_, la_, lc_, ln_]; first | done | omega))) only [fB_, go_sem, Nat.reduceEqDiff, ↓reduceIte, q2', bA_, Option.map_some, bi_]
  rw [hR]
  exact ⟨⟨by first | exact aI_.app _ _ | exact (aI_.app _ _).set (by omega), cA_ (fX_ (by simp)) (by simp) _⟩, _, rfl, _, rfl⟩
 have hR : bC_ x t = cZ_ x (bW_ t.Events) := by simp [bC_, q1, q2]
 rw [hR]
 have hvw : aN_ Tryz.prog 72 [.agg [.list 0 3 (x.Nodes.map ac_.cells)], .list 0 5 (t.Events.map ab_.cells)] (cG_ (cZ_ x (bW_ t.Events))) em_ := jA_ x t.Events hx (ax_.sz_Events ht)
 simp (disch := (first | omega | (simp only [ls_, la_, lc_, ln_]; first | done | omega))) only [a6_, cc_, go_sem, Nat.reduceEqDiff, ↓reduceIte, q2]
 refine b0_ hvw (fun av H1 m1 F1 q3 => ?_)
 obtain ⟨b, cb, v, rfl⟩ := q3
 obtain ⟨G, hv⟩ := F1.two
 simp only [AV.val.injEq, Value.int.injEq, true_and] at hv
 subst hv
 have cb' := cb
 simp only [AV.cell, Value.oneCell'] at cb'
 have l1 := m1.len
 simp only [la_, lc_, ln_] at l1
 have p2 := m1.at (i := h0.length + 2) (by rw [cH_]; rfl)
 simp (disch := (first | omega | (simp only [ls_, la_, lc_, ln_]; first | done | omega))) only [bf_, go_sem, Nat.reduceEqDiff, ↓reduceIte, p2, cb', bi_]
 exact ⟨⟨((aI_.app h0 _).trans m1).set (by omega), cA_ ((G.tree.keep fun z q _ => a9_ (by simp at q; omega)).widen (by simp) (by simp)) (by simp; omega) _⟩, _, cb, _, rfl⟩
theorem if_ (x : af_) (t : ax_) (hx : af_.sz x ≤ 1048576) (ht : ax_.sz t ≤ 1048576) (h : List Row) : aa_ Tryz.prog 34 [.agg (af_.cells x), .agg (ax_.cells t)] h (cG_ (bC_ x t)) := (kd_ x t hx ht).pure rfl h
end Go.Proofs.YtfplhbjggecnpaaGreatDoor
