/-
 Contracts of functions of this program, over abstract values. Conditions: as each theorem says.
-/
import Derived.Test.YtfplhbjggecnpaaGreatDoorFnWC
namespace Go.Proofs.YtfplhbjggecnpaaGreatDoor
open Go.AW
set_option linter.unusedVariables false
set_option linter.unusedSimpArgs false
set_option maxRecDepth 4000
theorem o9_ {x : ae_} {c : aZ_} (h : c.Kind = 1) : (bO_ x c).2 = dg_ x c.Name c.Subs ∧ (dg_ x c.Name c.Subs = 0 → (bO_ x c).1 = ⟨dB_ x.Nodes c.Name c.Subs c.Value⟩) := by
 unfold bO_ dg_
 rw [if_pos h]
 split
 ·exact ⟨rfl, fun _ => rfl⟩
 ·exact ⟨rfl, fun q => by cases q⟩
def c95 : LC :=
 .seq (.ops [.s 3 (.box 126 (.tmp 1)), .ki 4 0]) (.seq (.seq (.ops [.fa 5 0 3, .ln 6 5, .bk 7 .eql false 6 1]) (.cond (.tmp 7) (.seq (.ops [.m 8 0, .fa 9 1 3, .ln 10 9, .fa 11 2 3, .ln 12 11, .fa 13 3 3, .ln 14 13, .s 15
 (.call 145 [.tmp 8, .tmp 10, .tmp 12, .tmp 14]), .m 4 15]) .ret) .skip)) (.seq (.ops [.m 16 0, .fa 17 1 3, .ln 18 17, .fa 19 2 3, .ln 20 19, .c3 21 146 16 18 20]) (.seq (.ops [.ki 4 0]) .ret)))
def tB_ : LF := ⟨2, 22, c95, [.tmp 4]⟩
theorem CC_ : ar_ Tryz.prog Tryz.f95 tB_ := ah_
theorem je_ {L lo : Nat} {H0 H : List Row} {x : ae_} {sa : AV} (B : d5_ L lo H0 x) (mH : aM_ H0 H) (c : aZ_) (hx : aE_ x = true) (hs : aq_ ByteArray.size c.Subs ≤ 1048576) (hsh : sa = .list 0 1 (c.Subs.map ao_) ∨ ∃ ls k, sa = .own ls k) (hsa : ∀ H' : List Row, (∀ y, H0.length ≤ y → y < H.length → H'[y]? = H[y]?) → cT_ H' sa (.list 0 1 (c.Subs.map ao_))) {K : AV → List Row → Prop}
 (hk : ∀ H' : List Row, H.length ≤ H'.length → (∀ y, y < lo → H'[y]? = H[y]?) → ((bO_ x c).2 = 0 → d5_ L lo H' (bO_ x c).1) → K (.val (.int .i64 (bO_ x c).2)) H') :
 callSem Tryz.prog 95 [.ptr L 1 0 0, .agg [.val (.int .i64 c.Kind), .val (.string c.Name), sa, .val (.string c.Value)]] H K := by
 refine bD_ mixed Tryz.func95 CC_ (c7_ rfl ?_)
 have hlow := B.low
 have mlen := mH.len
 have csa : sa.cell = true := by rcases hsh with rfl | ⟨_, _, rfl⟩ <;> rfl
 have csa' := csa
 simp only [AV.cell, Value.oneCell'] at csa'
 have hsa' : ∀ r : Row, ∀ H' : List Row, (∀ y, H0.length ≤ y → y < (H ++ [r]).length → H'[y]? = (H ++ [r])[y]?) → cT_ H' sa (.list 0 1 (c.Subs.map ao_)) := fun r H' h => hsa H' fun y q1 q2 => by rw [h y q1 (by simp; omega)]; exact ay_ q2
 by_cases hk1 : c.Kind = 1
 ·have hk1' : (c.Kind = 1) = True := eq_true hk1
  obtain ⟨e1, e2⟩ := o9_ (x := x) hk1
  rw [e1] at hk
  simp (disch := (first | omega | (simp only [ls_, la_, lc_, ln_]; first | done | omega))) only [aN_, go_sem, Nat.reduceEqDiff, Nat.reduceAdd, reduceCtorEq, ↓reduceIte, tB_, c95, csa', hk1']
  refine kR_ B (mH.add _) c.Name c.Subs c.Value hx hs (hsa' _) (fun H' k1 k2 k3 => ?_)
  simp (disch := (first | omega | (simp only [ls_, la_, lc_, ln_]; first | done | omega))) only [go_sem, ↓reduceIte]
  exact hk H' (by simp at k1; omega) (fun y q => by rw [k2 y q]; exact ay_ (by omega)) (fun q => by rw [e2 q]; exact k3 q)
 ·have hk1' : (c.Kind = 1) = False := eq_false hk1
  have e1 : bO_ x c = (⟨cB_ x.Nodes c.Name c.Subs⟩, 0) := by rw [bO_, if_neg hk1]
  rw [e1] at hk
  simp (disch := (first | omega | (simp only [ls_, la_, lc_, ln_]; first | done | omega))) only [aN_, go_sem, Nat.reduceEqDiff, Nat.reduceAdd, reduceCtorEq, ↓reduceIte, tB_, c95, csa', hk1']
  obtain ⟨l, m, ts, b0, d⟩ := B
  have hl0 := b0.at'.lt
  have hr : ∀ r : Row, (H ++ [r]).length = H.length + 1 := fun r => by simp
  have b := fun r : Row => b0.more (mH.add [r])
  obtain ⟨a, o, hS⟩ := (b _).box
  have hlo := (b0.at'.lows l List.mem_cons_self).1
  refine j8_ (lo := lo) (l := L) (N := 1) (k := 0) (off := 0) (pre := []) (post := []) (es := [[a]]) (a := a) c.Name c.Subs hsh (fun H' hH => hsa' _ H' fun y q1 q2 => hH y q2 (by omega)) (ae_.sz_Nodes (c2_ hx)) o rfl rfl rfl hS (b _).at' b0.out d (fun H' m' us' k1 k2 k3 k4 k5 k6 k7 => ?_)
  simp (disch := (first | omega | (simp only [ls_, la_, lc_, ln_]; first | done | omega))) only [go_sem, ↓reduceIte]
  exact hk H' (by simp at k1; omega) (fun y q => by rw [k2 y (by simp; omega) (by omega) (by omega)]; exact ay_ (by omega)) (fun _ => ⟨l, m', us', ⟨⟨_, k7, .inl rfl⟩, k3, fun q => b0.out (k5 L q), b0.lt⟩, k6⟩)
def c50 : LC :=
 .seq (.ops [.s 3 (.box 79 (.tmp 1)), .ki 4 0]) (.seq (.seq (.ops [.ld 5 5 3, .c1 6 94 5]) (.cond (.tmp 6) (.seq (.ops [.m 7 0, .ld 8 5 3, .c1 9 96 8, .c2 10 95 7 9, .m 4 10]) .ret) .skip)) (.seq (.seq (.gops [.m 11 0,
 .nc 12 11, .ld 13 1 12, .ld 14 5 3, .ld 16 5 3] [(.c2 15 98 13 14, [.ld 16 5 3]), (.c2 17 97 15 16, []), (.nt 18 17, [])]) (.cond (.tmp 18) (.seq (.ops [.ki 4 5]) .ret) .skip)) (.seq (.ops [.ki 4 0]) .ret)))
def Br_ : LF := ⟨2, 19, c50, [.tmp 4]⟩
theorem CN_ : ar_ Tryz.prog Tryz.f50 Br_ := qo_
theorem jX_ {L lo : Nat} {H : List Row} {x : ae_} (B : d5_ L lo H x) (e : ac_) (hx : aE_ x = true) (hn : bi_ e = true) (hz : ac_.sz e ≤ 1048576) {K : AV → List Row → Prop}
 (hk : ∀ H' : List Row, H.length ≤ H'.length → (∀ y, y < lo → H'[y]? = H[y]?) → ((bw_ x e).2 = 0 → d5_ L lo H' (bw_ x e).1) → K (.val (.int .i64 (bw_ x e).2)) H') :
 callSem Tryz.prog 50 [.ptr L 1 0 0, .agg (ac_.cells e)] H K := by
 refine bD_ mixed Tryz.func50 CN_ (c7_ rfl ?_)
 have hlow := B.low
 have htu : ∀ H, aa_ Tryz.prog 94 [.agg [.val (.int .i64 e.Kind), .val (.string e.Name), .list 0 1 (e.Subs.map ao_), .val (.string e.Value), .val (.int .i64 e.N)]] H (.val (.bool (bR_ e))) := fun H => l0_ e H
 simp (disch := (first | omega | (simp only [ls_, la_, lc_, ln_]; first | done | omega))) only [aN_, go_sem, Nat.reduceEqDiff, Nat.reduceAdd, ↓reduceIte, Br_, c50, ac_.cells]
 refine aa_.call (htu _) ?_
 cases ht : bR_ e
 case true =>
  have hA : bw_ x e = bO_ x (dM_ e) := by rw [bw_, if_pos ht]
  rw [hA] at hk
  have hch : aS_ Tryz.prog 96 [.agg [.val (.int .i64 e.Kind), .val (.string e.Name), .list 0 1 (e.Subs.map ao_), .val (.string e.Value), .val (.int .i64 e.N)]] (.agg (aZ_.cells (dM_ e))) (fun a => ∃ l, a = .agg [.val (.int .i64 (dM_ e).Kind), .val (.string e.Name), .own l e.Subs.length, .val (.string e.Value)]) := jY_ e hz
  simp (disch := (first | omega | (simp only [ls_, la_, lc_, ln_]; first | done | omega))) only [aN_, go_sem, Nat.reduceEqDiff, Nat.reduceAdd, reduceCtorEq, ↓reduceIte]
  refine bU_ hch (fun av H1 m1 F1 q1 => ?_)
  obtain ⟨l, rfl⟩ := q1
  have l1 := m1.len
  simp only [la_, lc_, ln_] at l1
  have F2 := F1.tree.unagg.rest.rest.head
  simp (disch := (first | omega | (simp only [ls_, la_, lc_, ln_]; first | done | omega))) only [go_sem, Nat.reduceEqDiff, ↓reduceIte]
  refine je_ B ((aM_.app H _).trans m1) (dM_ e) hx (ac_.sz_Subs hz) (.inr ⟨l, _, rfl⟩) (fun H' h => (F2.keep fun y q1 q2 => h y (by simp at q1; omega) q2).arg) (fun H' k1 k2 k3 => ?_)
  simp (disch := (first | omega | (simp only [ls_, la_, lc_, ln_]; first | done | omega))) only [go_sem, ↓reduceIte]
  refine hk H' (by omega) (fun y q => ?_) k3
  rw [k2 y q, m1.kept y (by simp; omega)]; exact ay_ (by omega)
 case false =>
  obtain ⟨a, o, ca, hF⟩ := B.arg
  have hr := oF_ hn ht
  have hA : bw_ x e = if bo_ (bc_ x e) e = true then (x, 0) else (⟨[]⟩, 5) := by rw [bw_, if_neg (by rw [ht]; simp)]
  have hag : aS_ Tryz.prog 98 [.agg (ae_.cells x), .agg [.val (.int .i64 e.Kind), .val (.string e.Name), .list 0 1 (e.Subs.map ao_), .val (.string e.Value), .val (.int .i64 e.N)]] (.agg (ac_.cells (bc_ x e))) (gD_ e) := iY_ x e (c2_ hx) hz hx hn hr
  have hse : ∀ H, aa_ Tryz.prog 97 [.agg (ac_.cells (bc_ x e)), .agg [.val (.int .i64 e.Kind), .val (.string e.Name), .list 0 1 (e.Subs.map ao_), .val (.string e.Value), .val (.int .i64 e.N)]] H (.val (.bool (bo_ (bc_ x e) e))) := fun H => kZ_ (bc_ x e) e (lb_ hx hn hz) H
  simp (disch := (first | omega | (simp only [ls_, la_, lc_, ln_]; first | done | omega))) only [ay_, aN_, go_sem, Nat.reduceEqDiff, Nat.reduceAdd, reduceCtorEq, ↓reduceIte, o]
  refine es_ hag (aX_.cons (hF.keep fun y _ q => ay_ q).arg.any (aX_.cons (bp_.same rfl) aX_.nil)) (fun av H1 m1 F1 q1 => ?_)
  obtain ⟨l, v, k, rfl⟩ := q1
  have l1 := m1.len
  simp only [la_, lc_, ln_] at l1
  have o1 := m1.at (qA_ H _)
  have B1 := B.more ((aM_.app H _).trans m1)
  simp (disch := (first | omega | (simp only [ls_, la_, lc_, ln_]; first | done | omega))) only [go_sem, Nat.reduceEqDiff, Nat.reduceAdd, ↓reduceIte, o1]
  refine aa_.call (aa_.anyR rfl hse (aX_.cons F1.tree.arg.any (aX_.cons (bp_.same rfl) aX_.nil))) ?_
  cases hq : bo_ (bc_ x e) e
  ·rw [hA, if_neg (by rw [hq]; simp)] at hk
   simp (disch := (first | omega | (simp only [ls_, la_, lc_, ln_]; first | done | omega))) only [go_sem, ↓reduceIte]
   exact hk H1 (by omega) (fun y q => by rw [m1.kept y (by simp; omega)]; exact ay_ (by omega)) (fun q => by cases q)
  ·rw [hA, if_pos hq] at hk
   simp (disch := (first | omega | (simp only [ls_, la_, lc_, ln_]; first | done | omega))) only [go_sem, ↓reduceIte]
   exact hk H1 (by omega) (fun y q => by rw [m1.kept y (by simp; omega)]; exact ay_ (by omega)) (fun _ => B1)
theorem ci_ {t : Nat → AV} {h : List Row} (a s u : Nat) (n : Option Nat) (K : AV → List Row → Prop) : cu_ [.cell a n, .tmp s, .tmp u] K .ret t h = match as_ t h (.load n (.tmp a)) with | some av => K (.tup [av, t s, t u]) h | none => False := by
 simp only [cu_, dH_, List.mapM_cons, List.mapM_nil]
 cases as_ t h (.load n (.tmp a)) <;> simp [cS_]
abbrev kK_ (p : ae_ × Int × Int) : AV := .tup [.agg (ae_.cells p.1), .val (.int .i64 p.2.1), .val (.int .i64 p.2.2)]
def om_ (a : AV) : Prop := ∃ b, b.cell = true ∧ ∃ v v2, a = .tup [.agg [b], .val (.int .i64 v), .val (.int .i64 v2)]
abbrev e1_ (p : ae_ × Int) : AV := .tup [.agg (ae_.cells p.1), .val (.int .i64 p.2)]
def hR_ (a : AV) : Prop := ∃ b, b.cell = true ∧ ∃ v, a = .tup [.agg [b], .val (.int .i64 v)]
section
variable {lo hi : Nat} {H : List Row} {b : AV} {x : ae_}
theorem h9_ (hF : aA_ lo hi H (.agg [b]) (.agg (ae_.cells x))) (h : lo ≤ hi) (v v2 : Int) : aA_ lo hi H (.tup [.agg [b], .val (.int .i64 v), .val (.int .i64 v2)]) (kK_ (x, v, v2)) :=
 aA_.tup (aw_.cons hF (aw_.val _ (aw_.val _ (aw_.nil _ _ _))) ⟨h, Nat.le_refl _⟩)
theorem hs_ (hF : aA_ lo hi H (.agg [b]) (.agg (ae_.cells x))) (h : lo ≤ hi) (v : Int) : aA_ lo hi H (.tup [.agg [b], .val (.int .i64 v)]) (e1_ (x, v)) :=
 aA_.tup (aw_.cons hF (aw_.val _ (aw_.nil _ _ _)) ⟨h, Nat.le_refl _⟩)
theorem hC_ (h : lo ≤ hi) : aA_ lo hi H (.agg [.val (.slice none 0 0)]) (.agg (ae_.cells ⟨[]⟩)) := (aA_.agg (aw_.cons (aA_.mknil lo lo H 3) (aw_.nil _ _ _) ⟨Nat.le_refl _, Nat.le_refl _⟩)).widen (Nat.le_refl _) h
end
def c13 : LC :=
 .seq (.ops [.s 2 (.box 30 (.tmp 0)), .s 4 (.alloc 30 (.agg #[.slice none 0 0])), .ki 5 0, .ki 6 0]) (.seq (.seq (.ops [.ld 11 1 2, .c1 12 47 11, .nt 13 12, .m 14 13, .g 15 14 false (.mov (.tmp 1)), .g 16 14 false (.call
 48 [.tmp 15]), .g 17 14 false (.un .not (.tmp 16)), .pt 18 14 17]) (.cond (.tmp 18) (.seq (.ops [.s 19 (.build (.agg #[.slice none 0 0]) [(0, 1)] []), .st 1 4 19, .ki 5 0, .ki 6 1]) .ret) .skip)) (.seq (.ops [.ld 20 1 2,
 .c1 21 49 20, .s 7 (.alloc 30 (.agg #[.slice none 0 0])), .st 1 7 21]) (.seq (.seq (.ops [.m 22 1, .ll 23 22, .ki 24 0]) (.block 0 (.loop (.seq (.ops [.bb 25 .lss false 24 23]) (.seq (.cond (.tmp 25) .skip (.exit 0))
 (.seq (.block 1 (.seq (.ops [.m 26 24, .ia 27 5 22 24, .ld 28 5 27, .s 9 (.alloc 79 (.agg #[.int .i64 0, .string ⟨#[]⟩, .slice none 0 0, .string ⟨#[]⟩, .int .i64 0])), .m 8 26, .st 5 9 28]) (.seq (.ops [.ld 29 5 9, .c2
 30 50 7 29, .m 10 30]) (.seq (.ops [.m 31 10, .bk 32 .neq false 31 0]) (.cond (.tmp 32) (.seq (.ops [.s 33 (.build (.agg #[.slice none 0 0]) [(0, 1)] []), .m 34 8, .m 35 10, .st 1 4 33, .m 5 34, .m 6 35]) .ret)
 .skip))))) (.ops [.bk 36 .add false 24 1, .m 24 36]))))))) (.seq (.ops [.ld 37 1 7, .st 1 4 37, .ki 5 0, .ki 6 0]) .ret))))
def BK_ : LF := ⟨2, 38, c13, [.cell 4 (some 1), .tmp 5, .tmp 6]⟩
theorem CV_ : ar_ Tryz.prog Tryz.f13 BK_ := ah_
theorem kS_ (x : ae_) (es : List ac_) (hx : ae_.sz x ≤ 1048576) (he : aq_ ac_.sz es ≤ 1048576) : aS_ Tryz.prog 13 [.agg (ae_.cells x), .list 0 5 (es.map ac_.cells)] (kK_ (bu_ x es)) om_ := by
 refine bW_ mixed Tryz.func13 CV_ rfl (fun h0 => ?_)
 have htr : ∀ H, aa_ Tryz.prog 47 [.agg [.list 0 3 (x.Nodes.map ab_.cells)]] H (.val (.bool (aE_ x))) := fun H => fo_ x hx H
 have hno : ∀ H, aa_ Tryz.prog 48 [.list 0 5 (es.map ac_.cells)] H (.val (.bool (cX_ es))) := fun H => f9_ es he H
 have hcp : gI_ Tryz.prog 49 [.agg [.list 0 3 (x.Nodes.map ab_.cells)]] (.agg (ae_.cells x)) _ := he_ x hx
 have hl := at_ he
 simp (disch := (first | omega | (simp only [ls_, la_, lc_, ln_]; first | done | omega))) only [aN_, go_sem, Nat.reduceEqDiff, ↓reduceIte, BK_, c13, ae_.cells]
 refine aa_.call (htr _) ?_
 by_cases q1 : aE_ x = true
 case neg =>
  have q1' : aE_ x = false := by simpa using q1
  have hR : bu_ x es = (⟨[]⟩, 0, 1) := by simp [bu_, q1']
  simp (disch := (first | omega | (simp only [ls_, la_, lc_, ln_]; first | done | omega))) only [cP_, go_sem, Nat.reduceEqDiff, ↓reduceIte, q1', bM_, Option.map_some, ci_]
  rw [hR]
  exact ⟨⟨by first | exact aM_.app _ _ | exact (aM_.app _ _).set (by omega), h9_ (hC_ (by simp)) (by simp) _ _⟩, _, rfl, _, _, rfl⟩
 simp (disch := (first | omega | (simp only [ls_, la_, lc_, ln_]; first | done | omega))) only [go_sem, Nat.reduceEqDiff, ↓reduceIte, q1]
 refine aa_.call (hno _) ?_
 by_cases q2 : cX_ es = true
 case neg =>
  have q2' : cX_ es = false := by simpa using q2
  have hR : bu_ x es = (⟨[]⟩, 0, 1) := by simp [bu_, q2']
  simp (disch := (first | omega | (simp only [ls_, la_, lc_, ln_]; first | done | omega))) only [cP_, go_sem, Nat.reduceEqDiff, ↓reduceIte, q2', bM_, Option.map_some, ci_]
  rw [hR]
  exact ⟨⟨by first | exact aM_.app _ _ | exact (aM_.app _ _).set (by omega), h9_ (hC_ (by simp)) (by simp) _ _⟩, _, rfl, _, _, rfl⟩
 have hR : bu_ x es = b3_ x es 0 := by simp [bu_, q1, q2]
 rw [hR]
 simp (disch := (first | omega | (simp only [ls_, la_, lc_, ln_]; first | done | omega))) only [aN_, go_sem, Nat.reduceEqDiff, ↓reduceIte, q2]
 refine hcp _ _ (fun av H1 m1 F1 q3 => ?_)
 obtain ⟨l, rfl, es1, hrow⟩ := q3
 have l1 := m1.len
 have p1 := m1.at (i := h0.length + 1) (by rw [b8_]; rfl)
 simp only [la_, lc_, ln_] at l1
 have m0 : aM_ h0 H1 := (aM_.app h0 _).trans m1
 have hrl := (List.getElem?_eq_some_iff.1 hrow).1
 have B0 : d5_ H1.length (h0.length + 2) (H1 ++ [⟨30, 1, [[.own l x.Nodes.length]]⟩]) x := d5_.of (hi := H1.length) (aN_ rfl) (by omega) (Nat.le_refl _) ((F1.tree.keep fun y _ q => ay_ q).widen (by simp) (Nat.le_refl _)) ((ay_ hrl).trans hrow)
 simp (disch := (first | omega | (simp only [ls_, la_, lc_, ln_]; first | done | omega))) only [aN_, go_sem, Nat.reduceEqDiff, ↓reduceIte]
 refine aO_ (fun n t h => ∃ (k : Nat) (y : ae_), t 4 = .ptr (h0.length + 1) 1 0 0 ∧ t 7 = .ptr H1.length 1 0 0 ∧ t 22 = .list 0 5 (es.map ac_.cells) ∧ t 23 = .val (.int .i64 es.length) ∧ t 24 = .val (.int .i64 k) ∧ aM_ h0 h ∧ h[h0.length + 1]? = some ⟨30, 1, [[.val (.slice none 0 0)]]⟩ ∧
  d5_ H1.length (h0.length + 2) h y ∧ aE_ y = true ∧ b3_ x es 0 = b3_ y (es.drop k) k ∧ n = es.length - k ∧ k ≤ es.length) es.length ?_ ?_
 ·refine ⟨0, x, rfl, rfl, rfl, rfl, rfl, ?_, ?_, ?_, q1, rfl, rfl, Nat.zero_le _⟩
  ·first | exact m0.add _ | exact (m0.add _).set (by omega)
  ·(repeat (first | rw [au_ (by omega)] | rw [ay_ (by first | omega | (simp only [ls_, la_, lc_, ln_]; omega))])); exact p1
  ·first | exact B0 | (refine cast ?_ B0; congr 1; simp)
 rintro J hJ n t h ⟨k, y, t4, t7, t22, t23, t24, hM, o1, B, hy, hS, rfl, hk⟩
 have ml := hM.len
 have hlow := B.low
 have hol := (List.getElem?_eq_some_iff.1 o1).1
 by_cases hlt : k < es.length
 ·have hnk := (kB_ q2).2 es[k] (List.getElem_mem hlt)
  have hzk := bt_ he (List.getElem_mem hlt)
  simp (disch := (first | omega | (simp only [ls_, la_, lc_, ln_]; first | done | omega))) only [aN_, go_sem, Nat.reduceEqDiff, Nat.reduceAdd, ↓reduceIte, t7, t22, t23, t24, hlt, ac_.cells]
  refine jX_ (B.keep (fun y _ q => by (repeat (first | rw [au_ (by omega)] | rw [ay_ (by first | omega | (simp only [ls_, la_, lc_, ln_]; omega))]))) (by simp)) es[k] hy hnk hzk (fun H2 k1 k2 k3 => ?_)
  simp only [la_, lc_, ln_] at k1
  have o2 : H2[h0.length + 1]? = some ⟨30, 1, [[.val (.slice none 0 0)]]⟩ := by
   rw [k2 _ (by omega)]; (repeat (first | rw [au_ (by omega)] | rw [ay_ (by first | omega | (simp only [ls_, la_, lc_, ln_]; omega))])); exact o1
  have hM2 : aM_ h0 H2 := ⟨by omega, fun z q => by
   rw [k2 z (by omega)]; (repeat (first | rw [au_ (by omega)] | rw [ay_ (by first | omega | (simp only [ls_, la_, lc_, ln_]; omega))])); exact hM.kept z q⟩
  by_cases hc : (bw_ y es[k]).2 = 0
  ·simp (disch := (first | omega | (simp only [ls_, la_, lc_, ln_]; first | done | omega))) only [go_sem, Nat.reduceEqDiff, ↓reduceIte, t24, hc]
   exact ⟨es.length - (k + 1), by omega, hJ _ _ _ ⟨k + 1, (bw_ y es[k]).1, by simp [upd, t4], by simp [upd, t7], by simp [upd, t22], by simp [upd, t23], by simp [upd], hM2, o2, k3 hc, kc_ hy hnk, by rw [hS, hN_ hlt hc], rfl, by omega⟩⟩
  ·have hc' : ((bw_ y es[k]).2 = 0) = False := eq_false hc
   simp (disch := (first | omega | (simp only [ls_, la_, lc_, ln_]; first | done | omega))) only [aH_, go_sem, Nat.reduceEqDiff, ↓reduceIte, t4, o2, hc', bM_, Option.map_some, ci_]
   rw [hS, hW_ hlt hc]
   exact ⟨⟨by first | exact hM2 | exact hM2.set (by omega), h9_ (hC_ (by simp; omega)) (by simp; omega) _ _⟩, _, rfl, _, _, rfl⟩
 ·obtain ⟨a, o, ca, hF⟩ := B.arg
  have ca' := ca
  simp only [AV.cell, Value.oneCell'] at ca'
  simp (disch := (first | omega | (simp only [ls_, la_, lc_, ln_]; first | done | omega))) only [aH_, go_sem, Nat.reduceEqDiff, ↓reduceIte, t4, t7, t23, t24, o, o1, ca', hlt, ci_]
  rw [hS, k6_ (by omega)]
  exact ⟨⟨hM.set (by omega), h9_ ((hF.keep fun z q _ => au_ (by omega)).widen (by omega) (by simp)) (by simp; omega) _ _⟩, _, ca, _, _, rfl⟩
def y8_ : LC :=
 .seq (.ops [.s 1 (.box 126 (.tmp 0)), .s 2 (.mov (.const (.bool false)))]) (.seq (.seq (.ops [.fa 3 1 1, .ln 4 3, .fa 5 2 1, .ln 6 5, .c2 7 118 4 6, .nt 8 7]) (.cond (.tmp 8) (.seq (.ops [.s 2 (.mov (.const (.bool
 false)))]) .ret) .skip)) (.seq (.ops [.fa 9 0 1, .ln 10 9, .bk 11 .eql false 10 1, .m 12 11, .g 13 12 true (.fieldAddr 3 (.tmp 1)), .g 14 12 true (.load none (.tmp 13)), .g 15 12 true (.lenStr (.tmp 14)), .g 16 12 true
 (.bin .leq false (.tmp 15) (.const (.int .i64 64))), .pf 17 12 16, .m 18 17, .g 19 18 false (.fieldAddr 0 (.tmp 1)), .g 20 18 false (.load none (.tmp 19)), .g 21 18 false (.bin .eql false (.tmp 20) (.const (.int .i64
 2))), .g 22 18 false (.mov (.tmp 21)), .g 23 22 true (.fieldAddr 3 (.tmp 1)), .g 24 22 true (.load none (.tmp 23)), .g 25 22 true (.bin .eql false (.tmp 24) (.const (.string ⟨#[]⟩))), .g 26 18 false (.pick (.tmp 22)
 (.tmp 25) (.const (.bool false))), .pt 27 18 26, .m 2 27]) .ret))
def wM_ : LF := ⟨1, 28, y8_, [.tmp 2]⟩
theorem yI_ : ar_ Tryz.prog Tryz.f170 wM_ := ah_
theorem lH_ (x : aZ_) (hx : aZ_.sz x ≤ 1048576) (h : List Row) : aa_ Tryz.prog 170 [.agg (aZ_.cells x)] h (.val (.bool (cI_ x))) := by
 refine ai_ mixed Tryz.func170 yI_ rfl rfl ?_ h
 have h1 := aZ_.sz_Name hx
 have h2 := at_ (aZ_.sz_Subs hx)
 simp (disch := omega) only [wM_, y8_, aZ_.cells, go_sem, Nat.reduceEqDiff, Nat.reduceAdd, ↓reduceIte]
 repeat' (first
  | exact af_ _ _
  | (refine ad_ ?_; simp only [cI_, *, Bool.true_and, Bool.and_false, Bool.false_and, Bool.true_or, Bool.false_or, decide_true, decide_false, Bool.and_self, Bool.or_self]; done)
  | (refine ad_ ?_; simp [cI_, *]; done)
  | simp (disch := omega) only [go_sem, Nat.reduceEqDiff, ↓reduceIte]
  | (refine aa_.call (cg_ _ _ h1 h2 _) ?_)
  | (refine aa_.q (cg_ _ _ h1 h2 _) ?_)
  | ((first | (apply aQ_; assumption) | (apply aR_; assumption) | (apply a2_; assumption) | (apply a1_; assumption)); intro hb; try simp only [hb])
  | ((first | (apply aF_; assumption) | (apply aD_; assumption) | (apply aK_; assumption) | (apply aJ_; assumption)); intro hb; try simp only [hb])
  | ((first | apply az_ | apply aC_ | apply ak_ | apply am_) <;> intro hb <;> (try simp only [hb]) <;> (first | have hp := aT_ hb | have hp := aV_ hb | have hp := aU_ hb | have hp := aW_ hb | skip)))
def tI_ : LC :=
 .seq (.ops [.s 6 (.mov (.const (.bool false)))]) (.seq (.seq (.ops [.m 10 0, .ll 11 10, .m 12 1, .ll 13 12, .bb 14 .neq false 11 13]) (.cond (.tmp 14) (.seq (.ops [.s 6 (.mov (.const (.bool false)))]) .ret) .skip)) (.seq
 (.seq (.ops [.m 15 0, .ll 16 15, .ki 17 0]) (.block 0 (.loop (.seq (.ops [.bb 18 .lss false 17 16]) (.seq (.cond (.tmp 18) .skip (.exit 0)) (.seq (.block 1 (.seq (.ops [.m 19 17, .ia 20 3 15 17, .ld 21 3 20, .s 8 (.alloc
 112 (.agg #[.string ⟨#[]⟩, .slice none 0 0, .string ⟨#[]⟩])), .m 7 19, .st 3 8 21]) (.seq (.ops [.m 22 1, .m 23 7, .ia 24 3 22 23, .ld 25 3 24, .s 9 (.alloc 112 (.agg #[.string ⟨#[]⟩, .slice none 0 0, .string ⟨#[]⟩])),
 .st 3 9 25]) (.seq (.ops [.m 26 2, .ld 27 3 8, .ld 28 3 9, .s 29 (.callv (.tmp 26) [.tmp 27, .tmp 28]), .nt 30 29]) (.cond (.tmp 30) (.seq (.ops [.s 6 (.mov (.const (.bool false)))]) .ret) .skip))))) (.ops [.bk 31 .add
 false 17 1, .m 17 31]))))))) (.seq (.ops [.s 6 (.mov (.const (.bool true)))]) .ret)))
def se_ : LF := ⟨3, 32, tI_, [.tmp 6]⟩
theorem B0_ : ar_ Tryz.prog Tryz.f111 se_ := ah_
theorem gt_ (xs ys : List ab_) (p : ab_ → ab_ → Bool) (g : Nat) (hx : xs.length ≤ 1048576) (hc : bZ_ Tryz.prog g = true) (hp : ∀ x ∈ xs, ∀ y ∈ ys, ∀ h, aa_ Tryz.prog g [.agg (ab_.cells x), .agg (ab_.cells y)] h (.val (.bool (p x y)))) (h : List Row) :
 aa_ Tryz.prog 111 [.list 0 3 (xs.map ab_.cells), .list 0 3 (ys.map ab_.cells), .fn g [] []] h (.val (.bool (dz_ p xs ys))) := by
 refine ai_ mixed Tryz.func111 B0_ rfl rfl ?_ h
 by_cases hl : xs.length = ys.length
 ·have hl' : ((xs.length : Int) = (ys.length : Int)) = True := by simp [hl]
  simp (disch := omega) only [se_, tI_, hl', ag_, go_sem, Nat.reduceEqDiff, reduceCtorEq, ↓reduceIte]
  refine aO_ (fun n t h => ∃ k : Nat, t 0 = .list 0 3 (xs.map ab_.cells) ∧ t 1 = .list 0 3 (ys.map ab_.cells) ∧ t 2 = .fn g [] [] ∧ t 15 = .list 0 3 (xs.map ab_.cells) ∧ t 16 = .val (.int .i64 xs.length) ∧ t 17 = .val (.int .i64 k) ∧ n = xs.length - k ∧ k ≤ xs.length ∧ dz_ p xs ys = dz_ p (xs.drop k) (ys.drop k)) xs.length ?_ ?_
  ·exact ⟨0, rfl, rfl, rfl, rfl, rfl, rfl, rfl, Nat.zero_le _, rfl⟩
  ·rintro J hJ n t h ⟨k, t0, t1, t2, t15, t16, t17, rfl, hk, hS⟩
   by_cases hlt : k < xs.length
   ·have hlt2 : k < ys.length := by omega
    rw [gV_ p xs ys k hlt hlt2] at hS
    simp (disch := omega) only [t1, t2, t15, t16, t17, hlt, hc, ab_.cells, ag_, go_sem, Nat.reduceEqDiff, Nat.reduceAdd, ↓reduceIte]
    refine aa_.call (hp xs[k] (List.getElem_mem hlt) ys[k] (List.getElem_mem hlt2) _) ?_
    by_cases e : p xs[k] ys[k] = true
    ·simp (disch := omega) only [t17, e, ag_, go_sem, Nat.reduceEqDiff, ↓reduceIte, an_]
     exact ⟨xs.length - (k + 1), by omega, hJ _ _ _ ⟨k + 1, by simp [upd, t0], by simp [upd, t1], by simp [upd, t2], by simp [upd, t15], by simp [upd, t16], by simp [upd], rfl, by omega, by rw [hS]; simp [e]⟩⟩
    ·have e' : p xs[k] ys[k] = false := by simpa using e
     simp (disch := omega) only [t17, e', ag_, go_sem, Nat.reduceEqDiff, ↓reduceIte, an_]
     exact ad_ (by rw [hS]; simp [e'])
   ·simp (disch := omega) only [t1, t2, t15, t16, t17, hlt, ag_, go_sem, Nat.reduceEqDiff, Nat.reduceAdd, ↓reduceIte]
    exact ad_ (by rw [hS, hM_ _ _ _ _ (by omega) (by omega)])
 ·have hl' : ((xs.length : Int) = (ys.length : Int)) = False := by simp; omega
  simp (disch := omega) only [se_, tI_, hl', ag_, go_sem, Nat.reduceEqDiff, reduceCtorEq, ↓reduceIte]
  exact ad_ (by rw [eG_ _ _ _ hl])
def cs_ (x y : ab_) : Bool := decide (x.Name = y.Name) && decide (x.Value = y.Value) && a4_ x.Subs y.Subs
def yP_ : LC :=
 .seq (.ops [.s 2 (.box 112 (.tmp 0)), .s 3 (.box 112 (.tmp 1)), .s 4 (.mov (.const (.bool false)))]) (.seq (.ops [.fa 5 0 2, .ln 6 5, .fa 7 0 3, .ln 8 7, .bb 9 .eql false 6 8, .m 10 9, .g 11 10 true (.fieldAddr 2 (.tmp
 2)), .g 12 10 true (.load none (.tmp 11)), .g 13 10 true (.fieldAddr 2 (.tmp 3)), .g 14 10 true (.load none (.tmp 13)), .g 15 10 true (.bin .eql false (.tmp 12) (.tmp 14)), .pf 16 10 15, .m 17 16, .g 18 17 true
 (.fieldAddr 1 (.tmp 2)), .g 19 17 true (.load none (.tmp 18)), .g 20 17 true (.fieldAddr 1 (.tmp 3)), .g 21 17 true (.load none (.tmp 20)), .g 22 17 true (.call 147 [.tmp 19, .tmp 21]), .pf 23 17 22, .m 4 23]) .ret)
def wC_ : LF := ⟨2, 24, yP_, [.tmp 4]⟩
theorem Bz_ : ar_ Tryz.prog Tryz.f112 wC_ := ah_
def AA_ : LC :=
 .seq (.ops [.s 2 (.box 112 (.tmp 0)), .s 3 (.box 112 (.tmp 1)), .s 4 (.mov (.const (.bool false)))]) (.seq (.ops [.fa 5 0 2, .ln 6 5, .fa 7 0 3, .ln 8 7, .bb 9 .eql false 6 8, .m 10 9, .g 11 10 true (.fieldAddr 2 (.tmp
 2)), .g 12 10 true (.load none (.tmp 11)), .g 13 10 true (.fieldAddr 2 (.tmp 3)), .g 14 10 true (.load none (.tmp 13)), .g 15 10 true (.bin .eql false (.tmp 12) (.tmp 14)), .pf 16 10 15, .m 17 16, .g 18 17 true
 (.fieldAddr 1 (.tmp 2)), .g 19 17 true (.load none (.tmp 18)), .g 20 17 true (.fieldAddr 1 (.tmp 3)), .g 21 17 true (.load none (.tmp 20)), .g 22 17 true (.call 156 [.tmp 19, .tmp 21]), .pf 23 17 22, .m 4 23]) .ret)
def wG_ : LF := ⟨2, 24, AA_, [.tmp 4]⟩
theorem zt_ : ar_ Tryz.prog Tryz.f110 wG_ := ah_
def c70 : LC :=
 .seq (.ops [.s 2 (.box 30 (.tmp 0)), .s 3 (.box 30 (.tmp 1)), .s 4 (.mov (.const (.bool false)))]) (.seq (.ops [.fa 5 0 2, .ln 6 5, .fa 7 0 3, .ln 8 7, .s 9 (.call 111 [.tmp 6, .tmp 8, .func 112]), .m 4 9]) .ret)
def yR_ : LF := ⟨2, 10, c70, [.tmp 4]⟩
theorem C7_ : ar_ Tryz.prog Tryz.f70 yR_ := ah_
def c69 : LC :=
 .seq (.ops [.s 2 (.box 30 (.tmp 0)), .s 3 (.box 30 (.tmp 1)), .s 4 (.mov (.const (.bool false)))]) (.seq (.seq (.ops [.fa 6 0 2, .ln 7 6, .ll 8 7, .fa 9 0 3, .ln 10 9, .ll 11 10, .bb 12 .neq false 8 11]) (.cond (.tmp 12)
 (.seq (.ops [.s 4 (.mov (.const (.bool false)))]) .ret) .skip)) (.seq (.seq (.ops [.ki 5 0]) (.block 0 (.loop (.seq (.seq (.ops [.m 13 5, .fa 14 0 2, .ln 15 14, .ll 16 15, .bb 17 .lss false 13 16]) (.cond (.tmp 17) .skip
 (.exit 0))) (.seq (.block 1 (.seq (.dops [.fa 20 0 2, .ln 21 20, .m 22 5, .ia 23 3 21 22, .ld 24 3 23, .fa 25 0 3, .ln 26 25, .m 27 5, .ia 28 3 26 27, .ld 29 3 28, .c2 30 110 24 29, .nt 31 30]) (.cond (.tmp 31) (.seq
 (.ops [.s 4 (.mov (.const (.bool false)))]) .ret) .skip))) (.ops [.m 18 5, .bk 19 .add false 18 1, .m 5 19])))))) (.seq (.ops [.s 4 (.mov (.const (.bool true)))]) .ret)))
def tL_ : LF := ⟨2, 32, c69, [.tmp 4]⟩
theorem Dj_ : ar_ Tryz.prog Tryz.f69 tL_ := ah_
theorem lv_ (x y : ab_) (hx : ab_.sz x ≤ 1048576) (h : List Row) : aa_ Tryz.prog 112 [.agg (ab_.cells x), .agg (ab_.cells y)] h (.val (.bool (cs_ x y))) := by
 refine ai_ mixed Tryz.func112 Bz_ rfl rfl ?_ h
 simp (disch := omega) only [wC_, yP_, ab_.cells, go_sem, Nat.reduceEqDiff, Nat.reduceAdd, ↓reduceIte]
 by_cases e_Name : x.Name = y.Name
 ·have q_Name := eq_true e_Name
  simp (disch := omega) only [q_Name, go_sem, Nat.reduceEqDiff, ↓reduceIte]
  by_cases e_Value : x.Value = y.Value
  ·have q_Value := eq_true e_Value
   simp (disch := omega) only [q_Value, go_sem, Nat.reduceEqDiff, ↓reduceIte]
   first | refine aa_.call (b5_ x.Subs y.Subs (at_ (ab_.sz_Subs hx)) _) ?_ | refine aa_.q (b5_ x.Subs y.Subs (at_ (ab_.sz_Subs hx)) _) ?_
   by_cases q_Subs : a4_ x.Subs y.Subs = true
   ·skip
    simp (disch := omega) only [q_Subs, go_sem, Nat.reduceEqDiff, ↓reduceIte]
    exact ad_ (by simp [cs_, *])
   ·replace q_Subs : a4_ x.Subs y.Subs = false := by simpa using q_Subs
    simp (disch := omega) only [q_Subs, go_sem, Nat.reduceEqDiff, ↓reduceIte]
    exact ad_ (by simp [cs_, *])
  ·have q_Value := eq_false e_Value
   simp (disch := omega) only [q_Value, go_sem, Nat.reduceEqDiff, ↓reduceIte]
   exact ad_ (by simp [cs_, *])
 ·have q_Name := eq_false e_Name
  simp (disch := omega) only [q_Name, go_sem, Nat.reduceEqDiff, ↓reduceIte]
  exact ad_ (by simp [cs_, *])
theorem jW_ (x y : ab_) (hx : ab_.sz x ≤ 1048576) (h : List Row) : aa_ Tryz.prog 110 [.agg (ab_.cells x), .agg (ab_.cells y)] h (.val (.bool (cs_ x y))) := by
 refine ai_ mixed Tryz.func110 zt_ rfl rfl ?_ h
 simp (disch := omega) only [wG_, AA_, ab_.cells, go_sem, Nat.reduceEqDiff, Nat.reduceAdd, ↓reduceIte]
 by_cases e_Name : x.Name = y.Name
 ·have q_Name := eq_true e_Name
  simp (disch := omega) only [q_Name, go_sem, Nat.reduceEqDiff, ↓reduceIte]
  by_cases e_Value : x.Value = y.Value
  ·have q_Value := eq_true e_Value
   simp (disch := omega) only [q_Value, go_sem, Nat.reduceEqDiff, ↓reduceIte]
   first | refine aa_.call (eu_ x.Subs y.Subs (at_ (ab_.sz_Subs hx)) _) ?_ | refine aa_.q (eu_ x.Subs y.Subs (at_ (ab_.sz_Subs hx)) _) ?_
   by_cases q_Subs : a4_ x.Subs y.Subs = true
   ·skip
    simp (disch := omega) only [q_Subs, go_sem, Nat.reduceEqDiff, ↓reduceIte]
    exact ad_ (by simp [cs_, *])
   ·replace q_Subs : a4_ x.Subs y.Subs = false := by simpa using q_Subs
    simp (disch := omega) only [q_Subs, go_sem, Nat.reduceEqDiff, ↓reduceIte]
    exact ad_ (by simp [cs_, *])
  ·have q_Value := eq_false e_Value
   simp (disch := omega) only [q_Value, go_sem, Nat.reduceEqDiff, ↓reduceIte]
   exact ad_ (by simp [cs_, *])
 ·have q_Name := eq_false e_Name
  simp (disch := omega) only [q_Name, go_sem, Nat.reduceEqDiff, ↓reduceIte]
  exact ad_ (by simp [cs_, *])
def fV_ (x y : ae_) : Bool := dz_ cs_ x.Nodes y.Nodes
theorem lq_ (x y : ae_) (hx : ae_.sz x ≤ 1048576) (h : List Row) : aa_ Tryz.prog 70 [.agg (ae_.cells x), .agg (ae_.cells y)] h (.val (.bool (fV_ x y))) := by
 have hm := ae_.sz_Nodes hx
 have hxl := at_ hm
 refine ai_ mixed Tryz.func70 C7_ rfl rfl ?_ h
 simp (disch := omega) only [yR_, c70, ae_.cells, go_sem, Nat.reduceEqDiff, ↓reduceIte]
 refine aa_.call (gt_ x.Nodes y.Nodes cs_ 112 hxl (by kernel_rfl) (fun a ha b _ h => lv_ a b (bt_ hm ha) h) _) ?_
 simp (disch := omega) only [go_sem, ↓reduceIte]
 exact af_ _ _
theorem lp_ (x y : ae_) (hx : ae_.sz x ≤ 1048576) (h : List Row) : aa_ Tryz.prog 69 [.agg (ae_.cells x), .agg (ae_.cells y)] h (.val (.bool (fV_ x y))) := by
 have hm := ae_.sz_Nodes hx
 have hxl := at_ hm
 refine ai_ mixed Tryz.func69 Dj_ rfl rfl ?_ h
 by_cases hl : x.Nodes.length = y.Nodes.length
 ·have hl' : ((x.Nodes.length : Int) = (y.Nodes.length : Int)) = True := by simp [hl]
  simp (disch := omega) only [tL_, c69, ae_.cells, hl', ag_, go_sem, Nat.reduceEqDiff, ↓reduceIte]
  refine aO_ (fun n t h => ∃ k : Nat, t 2 = .ptr 0 1 0 0 ∧ t 3 = .ptr 1 1 0 0 ∧ t 5 = .val (.int .i64 k) ∧ h[0]? = some ⟨30, 1, [[.list 0 3 (x.Nodes.map ab_.cells)]]⟩ ∧ h[1]? = some ⟨30, 1, [[.list 0 3 (y.Nodes.map ab_.cells)]]⟩ ∧ n = x.Nodes.length - k ∧ k ≤ x.Nodes.length ∧ fV_ x y = dz_ cs_ (x.Nodes.drop k) (y.Nodes.drop k)) x.Nodes.length ⟨0, rfl, rfl, rfl, rfl, rfl, rfl, Nat.zero_le _, rfl⟩ ?_
  rintro J hJ n t h ⟨k, t2, t3, t5, o0, o1, rfl, hk, hS⟩
  by_cases hlt : k < x.Nodes.length
  ·have hlt2 : k < y.Nodes.length := by omega
   rw [gV_ cs_ x.Nodes y.Nodes k hlt hlt2] at hS
   simp (disch := omega) only [t2, t3, t5, o0, o1, hlt, ab_.cells, ag_, go_sem, Nat.reduceEqDiff, Nat.reduceAdd, ↓reduceIte]
   refine aa_.q (jW_ x.Nodes[k] y.Nodes[k] (bt_ hm (List.getElem_mem hlt)) _) ?_
   cases q : cs_ x.Nodes[k] y.Nodes[k]
   ·simp (disch := omega) only [go_sem]
    exact ad_ (by rw [hS, q]; rfl)
   ·simp (disch := omega) only [go_sem]
    exact ⟨x.Nodes.length - (k + 1), by omega, hJ _ _ _ ⟨k + 1, by simp [upd, t2], by simp [upd, t3], by simp [upd], o0, o1, rfl, by omega, by rw [hS, q]; rfl⟩⟩
  ·simp (disch := omega) only [t2, t3, t5, o0, o1, hlt, ag_, go_sem, Nat.reduceEqDiff, ↓reduceIte]
   exact ad_ (by rw [hS, hM_ _ _ _ _ (by omega) (by omega)])
 ·have hl' : ((x.Nodes.length : Int) = (y.Nodes.length : Int)) = False := by simp; omega
  simp (disch := omega) only [tL_, c69, ae_.cells, hl', ag_, go_sem, Nat.reduceEqDiff, ↓reduceIte]
  exact ad_ (by rw [fV_, eG_ _ _ _ hl])
def b6_ (xs : List aj_) : Bool := decide ((xs.length : Int) ≤ 400) && xs.all cw_
def Bg_ : LC :=
 .seq (.ops [.s 1 (.box 92 (.tmp 0)), .s 2 (.mov (.const (.bool false)))]) (.seq (.ops [.ld 3 2 1, .c1 4 105 3, .nt 5 4, .m 2 5]) .ret)
def vy_ : LF := ⟨1, 6, Bg_, [.tmp 2]⟩
theorem Ba_ : ar_ Tryz.prog Tryz.f104 vy_ := ah_
theorem gq_ (x : aj_) (hx : aj_.sz x ≤ 1048576) (h : List Row) : aa_ Tryz.prog 104 [.agg (aj_.cells x)] h (.val (.bool (!cw_ x))) := by
 refine ai_ mixed Tryz.func104 Ba_ rfl rfl ?_ h
 simp (disch := omega) only [vy_, Bg_, aj_.cells, go_sem, Nat.reduceEqDiff, Nat.reduceAdd, ↓reduceIte]
 repeat' (first
  | exact af_ _ _
  | simp (disch := omega) only [go_sem, ↓reduceIte]
  | (refine aa_.call (h4_ x hx _) ?_)
  | (refine aa_.q (h4_ x hx _) ?_)
  | ((first | (apply aF_; assumption) | (apply aD_; assumption) | (apply aK_; assumption) | (apply aJ_; assumption)); intro hb; try simp only [hb])
  | ((first | apply ak_ | apply am_) <;> intro hb <;> (try simp only [hb]) <;> (first | have hp := aT_ hb | have hp := aV_ hb | have hp := aU_ hb | have hp := aW_ hb | skip)))
def Cm_ : LC :=
 .seq (.ops [.ki 4 0]) (.seq (.seq (.ops [.m 6 0, .ll 7 6, .ki 8 0]) (.block 0 (.loop (.seq (.ops [.bb 9 .lss false 8 7]) (.seq (.cond (.tmp 9) .skip (.exit 0)) (.seq (.block 1 (.seq (.ops [.m 10 8, .m 5 10]) (.seq (.ops
 [.m 11 1, .m 12 0, .m 13 5, .ia 14 2 12 13, .ld 15 2 14, .s 16 (.callv (.tmp 11) [.tmp 15])]) (.cond (.tmp 16) (.seq (.ops [.m 17 5, .m 4 17]) .ret) .skip)))) (.ops [.bk 18 .add false 8 1, .m 8 18]))))))) (.seq (.ops [.s
 4 (.mov (.const (.int .i64 (-1))))]) .ret))
def wl_ : LF := ⟨2, 19, Cm_, [.tmp 4]⟩
theorem B4_ : ar_ Tryz.prog Tryz.f154 wl_ := ah_
theorem go_ (xs : List aj_) (p : aj_ → Bool) (g : Nat) (hx : xs.length ≤ 1048576) (hc : bZ_ Tryz.prog g = true) (hp : ∀ x ∈ xs, ∀ h, aa_ Tryz.prog g [.agg (aj_.cells x)] h (.val (.bool (p x)))) (h : List Row) :
 aa_ Tryz.prog 154 [.list 0 2 (xs.map aj_.cells), .fn g [] []] h (.val (.int .i64 (bL_ p xs 0))) := by
 refine ai_ mixed Tryz.func154 B4_ rfl rfl ?_ h
 simp (disch := omega) only [wl_, Cm_, go_sem, reduceCtorEq, Int.reduceNeg, ↓reduceIte]
 refine aO_ (fun n t h => ∃ k : Nat, t 0 = .list 0 2 (xs.map aj_.cells) ∧ t 1 = .fn g [] [] ∧ t 6 = .list 0 2 (xs.map aj_.cells) ∧ t 7 = .val (.int .i64 xs.length) ∧ t 8 = .val (.int .i64 k) ∧ n = xs.length - k ∧ k ≤ xs.length ∧ (bL_ p xs 0 = bL_ p (xs.drop k) k)) (xs.length) ?_ ?_
 ·exact ⟨0, rfl, rfl, rfl, rfl, rfl, rfl, Nat.zero_le _, rfl⟩
 ·rintro J hJ n t h ⟨k, t0, t1, t6, t7, k8, rfl, hk, hS⟩
  by_cases hlt : k < xs.length
  ·skip
   rw [gf_ p xs k hlt] at hS
   simp (disch := omega) only [t0, t1, t7, k8, hlt, hc, aj_.cells, go_sem, Nat.reduceEqDiff, Nat.reduceAdd, reduceCtorEq, Int.reduceNeg, ↓reduceIte]
   repeat' (first
    | exact af_ _ _
    | exact ⟨xs.length - (k + 1), by omega, hJ _ _ _ ⟨k + 1, by simp [upd, t0], by simp [upd, t1], by simp [upd, t6], by simp [upd, t7], by simp [upd], rfl, by omega, by rw [hS]; simp [*]⟩⟩
    | (refine aL_ ?_; rw [hS]; simp [*]; done)
    | (refine aL_ ?_; rw [hS, d7_ _ _ _ (by omega)])
    | simp (disch := omega) only [k8, go_sem, Nat.reduceEqDiff, Int.reduceNeg, ↓reduceIte]
    | (refine aa_.call (hp xs[k] (List.getElem_mem hlt) _) ?_)
    | (refine aa_.q (hp xs[k] (List.getElem_mem hlt) _) ?_)
    | ((first | (apply aF_; assumption) | (apply aD_; assumption) | (apply aK_; assumption) | (apply aJ_; assumption)); intro hb; try simp only [hb])
    | ((first | apply ak_ | apply am_) <;> intro hb <;> (try simp only [hb]) <;> (first | have hp := aT_ hb | have hp := aV_ hb | have hp := aU_ hb | have hp := aW_ hb | skip)))
  ·skip
   simp (disch := omega) only [t7, k8, hlt, go_sem, Int.reduceNeg, ↓reduceIte]
   repeat' (first
    | exact af_ _ _
    | (refine aL_ ?_; rw [hS]; simp [*]; done)
    | (refine aL_ ?_; rw [hS, d7_ _ _ _ (by omega)])
    | simp (disch := omega) only [t0, t1, t6, t7, k8, go_sem, Nat.reduceEqDiff, Nat.reduceAdd, Nat.reduceLeDiff, reduceCtorEq, Int.reduceLT, Int.reduceLE, Int.reduceNeg, Int.reduceSub, Int.reduceAdd, Int.reduceToNat, ↓reduceIte]
    | (refine aa_.call (hp xs[k] (List.getElem_mem hlt) _) ?_)
    | (refine aa_.q (hp xs[k] (List.getElem_mem hlt) _) ?_)
    | ((first | (apply aF_; assumption) | (apply aD_; assumption) | (apply aK_; assumption) | (apply aJ_; assumption)); intro hb; try simp only [hb])
    | ((first | apply ak_ | apply am_) <;> intro hb <;> (try simp only [hb]) <;> (first | have hp := aT_ hb | have hp := aV_ hb | have hp := aU_ hb | have hp := aW_ hb | skip)))
def x5_ : LC :=
 .seq (.ops [.s 4 (.mov (.const (.bool false)))]) (.seq (.ops [.m 5 0, .m 6 1, .c2 7 154 5 6, .bk 8 .geq false 7 0, .m 4 8]) .ret)
def v9_ : LF := ⟨2, 9, x5_, [.tmp 4]⟩
theorem Av_ : ar_ Tryz.prog Tryz.f103 v9_ := ah_
theorem dk_ (xs : List aj_) (p : aj_ → Bool) (g : Nat) (hx : xs.length ≤ 1048576) (hc : bZ_ Tryz.prog g = true) (hp : ∀ x ∈ xs, ∀ h, aa_ Tryz.prog g [.agg (aj_.cells x)] h (.val (.bool (p x)))) (h : List Row) :
 aa_ Tryz.prog 103 [.list 0 2 (xs.map aj_.cells), .fn g [] []] h (.val (.bool (xs.any p))) := by
 refine ai_ mixed Tryz.func103 Av_ rfl rfl ?_ h
 simp (disch := omega) only [v9_, x5_, go_sem, Nat.reduceEqDiff, reduceCtorEq, ↓reduceIte]
 refine aa_.call (go_ xs p g hx hc hp _) ?_
 simp (disch := omega) only [go_sem, ↓reduceIte]
 exact ad_ (iD_ p xs)
def c61 : LC :=
 .seq (.ops [.s 2 (.mov (.const (.bool false)))]) (.seq (.ops [.m 3 0, .ll 4 3, .bk 5 .leq false 4 400, .m 6 5, .g 7 6 true (.mov (.tmp 0)), .g 8 6 true (.call 103 [.tmp 7, .func 104]), .g 9 6 true (.un .not (.tmp 8)),
 .pf 10 6 9, .m 2 10]) .ret)
def yW_ : LF := ⟨1, 11, c61, [.tmp 2]⟩
theorem Dv_ : ar_ Tryz.prog Tryz.f61 yW_ := ah_
theorem kX_ (xs : List aj_) (hs : aq_ aj_.sz xs ≤ 1048576) (h : List Row) : aa_ Tryz.prog 61 [.list 0 2 (xs.map aj_.cells)] h (.val (.bool (b6_ xs))) := by
 refine ai_ mixed Tryz.func61 Dv_ rfl rfl ?_ h
 simp (disch := omega) only [yW_, c61, go_sem, reduceCtorEq, ↓reduceIte]
 repeat' (first
  | exact af_ _ _
  | (refine ad_ ?_; simp only [mI_, b6_, *, Bool.true_and, Bool.false_and, decide_true, decide_false]; done)
  | simp (disch := omega) only [go_sem, Nat.reduceEqDiff, reduceCtorEq, ↓reduceIte]
  | (refine aa_.call (dk_ _ (fun s => !cw_ s) 104 (at_ hs) (by kernel_rfl) (fun x hx h => gq_ x (by have := b2_ (f := aj_.sz) hx; omega) h) _) ?_)
  | (refine aa_.q (dk_ _ (fun s => !cw_ s) 104 (at_ hs) (by kernel_rfl) (fun x hx h => gq_ x (by have := b2_ (f := aj_.sz) hx; omega) h) _) ?_)
  | ((first | (apply aQ_; assumption) | (apply aR_; assumption) | (apply a2_; assumption) | (apply a1_; assumption)); intro hb; try simp only [hb])
  | ((first | (apply aF_; assumption) | (apply aD_; assumption) | (apply aK_; assumption) | (apply aJ_; assumption)); intro hb; try simp only [hb])
  | ((first | apply az_ | apply aC_ | apply ak_ | apply am_) <;> intro hb <;> (try simp only [hb]) <;> (first | have hp := aT_ hb | have hp := aV_ hb | have hp := aU_ hb | have hp := aW_ hb | skip)))
def c58 : LC :=
 .seq (.ops [.s 2 (.mov (.const (.bool false)))]) (.seq (.seq (.ops [.m 4 0, .ll 5 4, .bk 6 .gtr false 5 400]) (.cond (.tmp 6) (.seq (.ops [.s 2 (.mov (.const (.bool false)))]) .ret) .skip)) (.seq (.seq (.ops [.ki 3 0])
 (.block 0 (.loop (.seq (.seq (.ops [.m 7 3, .m 8 0, .ll 9 8, .bb 10 .lss false 7 9]) (.cond (.tmp 10) .skip (.exit 0))) (.seq (.block 1 (.seq (.ops [.m 13 0, .m 14 3, .ia 15 2 13 14, .ld 16 2 15, .c1 17 102 16, .nt 18
 17]) (.cond (.tmp 18) (.seq (.ops [.s 2 (.mov (.const (.bool false)))]) .ret) .skip))) (.ops [.m 11 3, .bk 12 .add false 11 1, .m 3 12])))))) (.seq (.ops [.s 2 (.mov (.const (.bool true)))]) .ret)))
def uf_ : LF := ⟨1, 19, c58, [.tmp 2]⟩
theorem CI_ : ar_ Tryz.prog Tryz.f58 uf_ := ah_
theorem n0_ (xs : List aj_) (hs : aq_ aj_.sz xs ≤ 1048576) (h : List Row) : aa_ Tryz.prog 58 [.list 0 2 (xs.map aj_.cells)] h (.val (.bool (b6_ xs))) := by
 refine ai_ mixed Tryz.func58 CI_ rfl rfl ?_ h
 have hx := at_ hs
 have hm : ∀ x ∈ xs, aj_.sz x ≤ 1048576 := fun x hx => by have := b2_ (f := aj_.sz) hx; omega
 by_cases h4 : (xs.length : Int) ≤ 400
 ·have h4' : ((400 : Int) < xs.length) = False := eq_false (by omega)
  have hS0 : b6_ xs = xs.all cw_ := by simp [b6_, h4]
  simp (disch := omega) only [uf_, c58, h4', go_sem, reduceCtorEq, ↓reduceIte]
  refine aO_ (fun n t h => ∃ k : Nat, t 0 = .list 0 2 (xs.map aj_.cells) ∧ t 3 = .val (.int .i64 k) ∧ n = xs.length - k ∧ k ≤ xs.length ∧ (xs.all cw_ = (xs.drop k).all cw_)) (xs.length) ?_ ?_
  ·exact ⟨0, rfl, rfl, rfl, Nat.zero_le _, rfl⟩
  ·rintro J hJ n t h ⟨k, t0, k3, rfl, hk, hS⟩
   by_cases hlt : k < xs.length
   ·skip
    rw [lt_ cw_ xs k hlt] at hS
    simp (disch := omega) only [t0, k3, hlt, aj_.cells, go_sem, Nat.reduceEqDiff, Nat.reduceAdd, reduceCtorEq, ↓reduceIte]
    repeat' (first
     | exact af_ _ _
     | exact ⟨xs.length - (k + 1), by omega, hJ _ _ _ ⟨k + 1, by simp [upd, t0], by simp [upd], rfl, by omega, by rw [hS]; first | (simp only [*, Bool.true_and]; done) | simp [*]⟩⟩
     | (refine ad_ ?_; rw [hS0, hS]; first | (simp only [*, Bool.false_and]; done) | (simp [*]; done))
     | (refine ad_ ?_; rw [hS0, hS, hw_ _ _ _ (by omega)])
     | simp (disch := omega) only [k3, go_sem, Nat.reduceEqDiff, ↓reduceIte]
     | (refine aa_.call (eK_ (xs[k]) (hm _ (List.getElem_mem hlt)) _) ?_)
     | (refine aa_.q (eK_ (xs[k]) (hm _ (List.getElem_mem hlt)) _) ?_)
     | ((first | (apply aF_; assumption) | (apply aD_; assumption) | (apply aK_; assumption) | (apply aJ_; assumption)); intro hb; try simp only [hb])
     | ((first | apply ak_ | apply am_) <;> intro hb <;> (try simp only [hb]) <;> (first | have hp := aT_ hb | have hp := aV_ hb | have hp := aU_ hb | have hp := aW_ hb | skip)))
   ·skip
    simp (disch := omega) only [t0, k3, hlt, go_sem, Nat.reduceEqDiff, reduceCtorEq, ↓reduceIte]
    repeat' (first
     | exact af_ _ _
     | (refine ad_ ?_; rw [hS0, hS]; first | (simp only [*, Bool.and_true, Bool.true_and, Bool.and_false, Bool.false_and, Bool.or_true, Bool.true_or, Bool.or_false, Bool.false_or, Bool.not_true, Bool.not_false, decide_true, decide_false, Bool.and_self, Bool.or_self]; done) | (simp [*]; done))
     | (refine ad_ ?_; rw [hS0, hS, hw_ _ _ _ (by omega)])
     | simp (disch := omega) only [t0, k3, go_sem, Nat.reduceEqDiff, Nat.reduceAdd, Nat.reduceLeDiff, reduceCtorEq, Int.reduceLT, Int.reduceLE, Int.reduceNeg, Int.reduceSub, Int.reduceAdd, Int.reduceToNat, ↓reduceIte]
     | (refine aa_.call (eK_ (xs[k]) (hm _ (List.getElem_mem hlt)) _) ?_)
     | (refine aa_.q (eK_ (xs[k]) (hm _ (List.getElem_mem hlt)) _) ?_)
     | ((first | (apply aF_; assumption) | (apply aD_; assumption) | (apply aK_; assumption) | (apply aJ_; assumption)); intro hb; try simp only [hb])
     | ((first | apply ak_ | apply am_) <;> intro hb <;> (try simp only [hb]) <;> (first | have hp := aT_ hb | have hp := aV_ hb | have hp := aU_ hb | have hp := aW_ hb | skip)))
 ·have h4' : ((400 : Int) < xs.length) = True := eq_true (by omega)
  simp (disch := omega) only [uf_, c58, h4', go_sem, reduceCtorEq, ↓reduceIte]
  exact ad_ (by simp [b6_, h4])
def bX_ : ae_ → List aj_ → Nat → ae_ × Int × Int
 | x, [], _ => (x, 0, 0)
 | x, b :: bs, k => if (bu_ x b.Events).2.2 = 0 then bX_ (bu_ x b.Events).1 bs (k + 1) else (⟨[]⟩, (k : Int), (bu_ x b.Events).2.2)
def cq_ (x : ae_) (bs : List aj_) : ae_ × Int × Int := if (aE_ x && b6_ bs) = true then bX_ x bs 0 else (⟨[]⟩, 0, 1)
theorem ja_ {x : ae_} {es : List ac_} (h : aE_ x = true) : aE_ (bu_ x es).1 = true := by
 unfold bu_
 split
 ·rename_i q
  simp only [Bool.and_eq_true] at q
  exact mn_ es x 0 h (kB_ q.2).2
 ·exact fW_
theorem nL_ : ∀ (bs : List aj_) (x : ae_) (k : Nat), aE_ x = true → aE_ (bX_ x bs k).1 = true
 | [], x, k, h => h
 | b :: bs, x, k, h => by
  unfold bX_
  split
  ·exact nL_ bs _ _ (ja_ h)
  ·exact fW_
theorem sM_ (x : ae_) (bs : List aj_) : aE_ (cq_ x bs).1 = true := by
 unfold cq_
 split
 ·rename_i h
  simp only [Bool.and_eq_true] at h
  exact nL_ bs x 0 h.1
 ·exact fW_
theorem nA_ (x : ae_) (bs : List aj_) : ae_.sz (cq_ x bs).1 ≤ 1048576 := c2_ (sM_ x bs)
theorem k2_ {x : ae_} {bs : List aj_} {k : Nat} (h : k < bs.length) (h0 : (bu_ x bs[k].Events).2.2 = 0) : bX_ x (bs.drop k) k = bX_ (bu_ x bs[k].Events).1 (bs.drop (k + 1)) (k + 1) := by
 rw [cm_ h, bX_, if_pos h0]
theorem li_ {x : ae_} {bs : List aj_} {k : Nat} (h : k < bs.length) (h0 : ¬ (bu_ x bs[k].Events).2.2 = 0) : bX_ x (bs.drop k) k = (⟨[]⟩, (k : Int), (bu_ x bs[k].Events).2.2) := by
 rw [cm_ h, bX_, if_neg h0]
theorem l7_ {x : ae_} {bs : List aj_} {k : Nat} (h : bs.length ≤ k) : bX_ x (bs.drop k) k = (x, 0, 0) := by
 rw [List.drop_eq_nil_of_le h, bX_]
theorem pz_ {bs : List aj_} (h : b6_ bs = true) : bs.length ≤ 400 ∧ ∀ b ∈ bs, cw_ b = true := by
 simp only [b6_, Bool.and_eq_true, decide_eq_true_eq, List.all_eq_true] at h
 exact ⟨by omega, h.2⟩
theorem ql_ {b : aj_} (h : cw_ b = true) : cX_ b.Events = true := by
 simp only [cw_, Bool.and_eq_true] at h
 exact h.2
theorem qR_ {x : ae_} {es : List ac_} (h1 : aE_ x = true) (h2 : cX_ es = true) : bu_ x es = b3_ x es 0 := by simp [bu_, h1, h2]
def eF_ (x : ae_) (bs : List aj_) (y : ae_) : Bool := decide ((cq_ x bs).2.2 = 0) && (aE_ y && fV_ (cq_ x bs).1 y)
structure i6_ (L lo : Nat) (H : List Row) (x : ae_) : Prop where
 out : ∃ (a : AV) (p q : Nat), H[L]? = some ⟨30, 1, [[a]]⟩ ∧ a.cell = true ∧ lo ≤ p ∧ p ≤ q ∧ q ≤ H.length ∧ (q ≤ L ∨ L < p) ∧ aA_ p q H (.agg [a]) (.agg (ae_.cells x))
section
variable {L lo : Nat} {H H' : List Row} {x : ae_}
theorem i6_.keep (T : i6_ L lo H x) (hL : lo ≤ L) (hk : ∀ y, lo ≤ y → y < H.length → H'[y]? = H[y]?) (hl : H.length ≤ H'.length) : i6_ L lo H' x := by
 obtain ⟨a, p, q, o, ca, h1, h2, h3, h4, h5⟩ := T
 exact ⟨a, p, q, (hk L hL (List.getElem?_eq_some_iff.1 o).1).trans o, ca, h1, h2, by omega, h4, h5.keep fun y q1 q2 => hk y (by omega) (by omega)⟩
theorem i6_.lt (T : i6_ L lo H x) : L < H.length := by
 obtain ⟨a, p, q, o, _⟩ := T
 exact (List.getElem?_eq_some_iff.1 o).1
end
def c22 : LC :=
 .seq (.ops [.s 2 (.box 30 (.tmp 0)), .s 4 (.alloc 30 (.agg #[.slice none 0 0])), .ki 5 0, .ki 6 0]) (.seq (.seq (.ops [.ld 13 1 2, .c1 14 47 13, .nt 15 14, .m 16 15, .g 17 16 false (.mov (.tmp 1)), .g 18 16 false (.call
 61 [.tmp 17]), .g 19 16 false (.un .not (.tmp 18)), .pt 20 16 19]) (.cond (.tmp 20) (.seq (.ops [.s 21 (.build (.agg #[.slice none 0 0]) [(0, 1)] []), .st 1 4 21, .ki 5 0, .ki 6 1]) .ret) .skip)) (.seq (.ops [.ld 22 1 2,
 .c1 23 49 22, .s 7 (.alloc 30 (.agg #[.slice none 0 0])), .st 1 7 23]) (.seq (.seq (.ops [.m 24 1, .ll 25 24, .ki 26 0]) (.block 0 (.loop (.seq (.ops [.bb 27 .lss false 26 25]) (.seq (.cond (.tmp 27) .skip (.exit 0))
 (.seq (.block 1 (.seq (.ops [.m 28 26, .ia 29 2 24 26, .ld 30 2 29, .s 9 (.alloc 92 (.agg #[.int .i64 0, .slice none 0 0])), .m 8 28, .st 2 9 30]) (.seq (.ops [.ld 32 1 7, .fa 33 1 9, .ln 34 33, .c2 35 13 32 34, .m 31
 35, .ex 36 31 0, .ex 37 31 1, .ex 38 31 2, .s 10 (.alloc 30 (.agg #[.slice none 0 0])), .st 1 10 36, .m 11 37, .m 12 38]) (.seq (.seq (.ops [.m 39 12, .bk 40 .neq false 39 0]) (.cond (.tmp 40) (.seq (.ops [.s 41 (.build
 (.agg #[.slice none 0 0]) [(0, 1)] []), .m 42 8, .m 43 12, .st 1 4 41, .m 5 42, .m 6 43]) .ret) .skip)) (.ops [.ld 44 1 10, .st 1 7 44]))))) (.ops [.bk 45 .add false 26 1, .m 26 45]))))))) (.seq (.ops [.ld 46 1 7, .st 1
 4 46, .ki 5 0, .ki 6 0]) .ret))))
def zI_ : LF := ⟨2, 47, c22, [.cell 4 (some 1), .tmp 5, .tmp 6]⟩
theorem CJ_ : ar_ Tryz.prog Tryz.f22 zI_ := ah_
theorem jb_ (x : ae_) (bs : List aj_) (hx : ae_.sz x ≤ 1048576) (hb : aq_ aj_.sz bs ≤ 1048576) : aS_ Tryz.prog 22 [.agg (ae_.cells x), .list 0 2 (bs.map aj_.cells)] (kK_ (cq_ x bs)) om_ := by
 refine bW_ mixed Tryz.func22 CJ_ rfl (fun h0 => ?_)
 have htr : ∀ H, aa_ Tryz.prog 47 [.agg [.list 0 3 (x.Nodes.map ab_.cells)]] H (.val (.bool (aE_ x))) := fun H => fo_ x hx H
 have hno : ∀ H, aa_ Tryz.prog 61 [.list 0 2 (bs.map aj_.cells)] H (.val (.bool (b6_ bs))) := fun H => kX_ bs hb H
 have hcp : gI_ Tryz.prog 49 [.agg [.list 0 3 (x.Nodes.map ab_.cells)]] (.agg (ae_.cells x)) _ := he_ x hx
 have hl := at_ hb
 simp (disch := (first | omega | (simp only [ls_, la_, lc_, ln_]; first | done | omega))) only [aN_, go_sem, Nat.reduceEqDiff, ↓reduceIte, zI_, c22, ae_.cells]
 refine aa_.call (htr _) ?_
 by_cases q1 : aE_ x = true
 case neg =>
  have q1' : aE_ x = false := by simpa using q1
  have hR : cq_ x bs = (⟨[]⟩, 0, 1) := by simp [cq_, q1']
  simp (disch := (first | omega | (simp only [ls_, la_, lc_, ln_]; first | done | omega))) only [cP_, go_sem, Nat.reduceEqDiff, ↓reduceIte, q1', bM_, Option.map_some, ci_]
  rw [hR]
  exact ⟨⟨by first | exact aM_.app _ _ | exact (aM_.app _ _).set (by omega), h9_ (hC_ (by simp)) (by simp) _ _⟩, _, rfl, _, _, rfl⟩
 simp (disch := (first | omega | (simp only [ls_, la_, lc_, ln_]; first | done | omega))) only [go_sem, Nat.reduceEqDiff, ↓reduceIte, q1]
 refine aa_.call (hno _) ?_
 by_cases q2 : b6_ bs = true
 case neg =>
  have q2' : b6_ bs = false := by simpa using q2
  have hR : cq_ x bs = (⟨[]⟩, 0, 1) := by simp [cq_, q2']
  simp (disch := (first | omega | (simp only [ls_, la_, lc_, ln_]; first | done | omega))) only [cP_, go_sem, Nat.reduceEqDiff, ↓reduceIte, q2', bM_, Option.map_some, ci_]
  rw [hR]
  exact ⟨⟨by first | exact aM_.app _ _ | exact (aM_.app _ _).set (by omega), h9_ (hC_ (by simp)) (by simp) _ _⟩, _, rfl, _, _, rfl⟩
 have hR : cq_ x bs = bX_ x bs 0 := by simp [cq_, q1, q2]
 rw [hR]
 simp (disch := (first | omega | (simp only [ls_, la_, lc_, ln_]; first | done | omega))) only [aN_, go_sem, Nat.reduceEqDiff, ↓reduceIte, q2]
 refine hcp _ _ (fun av H1 m1 F1 q3 => ?_)
 obtain ⟨l, rfl, es1, hrow⟩ := q3
 have l1 := m1.len
 have p1 := m1.at (i := h0.length + 1) (by rw [b8_]; rfl)
 simp only [la_, lc_, ln_] at l1
 have m0 : aM_ h0 H1 := (aM_.app h0 _).trans m1
 have B0 : i6_ H1.length (h0.length + 2) (H1 ++ [⟨30, 1, [[.own l x.Nodes.length]]⟩]) x := ⟨_, h0.length + 2, H1.length, aN_ rfl, rfl, Nat.le_refl _, by omega, by simp, .inl (Nat.le_refl _), (F1.tree.keep fun y _ q => ay_ q).widen (by simp) (Nat.le_refl _)⟩
 simp (disch := (first | omega | (simp only [ls_, la_, lc_, ln_]; first | done | omega))) only [aN_, go_sem, Nat.reduceEqDiff, ↓reduceIte]
 refine aO_ (fun n t h => ∃ (k : Nat) (y : ae_), t 4 = .ptr (h0.length + 1) 1 0 0 ∧ t 7 = .ptr H1.length 1 0 0 ∧ t 24 = .list 0 2 (bs.map aj_.cells) ∧ t 25 = .val (.int .i64 bs.length) ∧ t 26 = .val (.int .i64 k) ∧ aM_ h0 h ∧ h[h0.length + 1]? = some ⟨30, 1, [[.val (.slice none 0 0)]]⟩ ∧
  i6_ H1.length (h0.length + 2) h y ∧ aE_ y = true ∧ bX_ x bs 0 = bX_ y (bs.drop k) k ∧ n = bs.length - k ∧ k ≤ bs.length) bs.length ?_ ?_
 ·refine ⟨0, x, rfl, rfl, rfl, rfl, rfl, ?_, ?_, ?_, q1, rfl, rfl, Nat.zero_le _⟩
  ·first | exact m0.add _ | exact (m0.add _).set (by omega)
  ·(repeat (first | rw [au_ (by omega)] | rw [ay_ (by first | omega | (simp only [ls_, la_, lc_, ln_]; omega))])); exact p1
  ·first | exact B0 | (refine cast ?_ B0; congr 1; simp)
 rintro J hJ n t h ⟨k, y, t4, t7, t24, t25, t26, hM, o1, T, hy, hS, rfl, hk⟩
 have ml := hM.len
 have hlL := T.lt
 obtain ⟨a, p, q, o, ca, z1, z2, z3, z4, hF⟩ := id T
 have hol := (List.getElem?_eq_some_iff.1 o1).1
 have ca' := ca
 simp only [AV.cell, Value.oneCell'] at ca'
 by_cases hlt : k < bs.length
 ·have hzk : aq_ ac_.sz bs[k].Events ≤ 1048576 := aj_.sz_Events (bt_ hb (List.getElem_mem hlt))
  simp (disch := (first | omega | (simp only [ls_, la_, lc_, ln_]; first | done | omega))) only [ay_, aN_, go_sem, Nat.reduceEqDiff, Nat.reduceAdd, ↓reduceIte, t7, t24, t25, t26, o, hlt, aj_.cells]
  refine es_ (kS_ y bs[k].Events (c2_ hy) hzk) (aX_.cons (hF.keep fun z _ q => by (repeat (first | rw [au_ (by omega)] | rw [ay_ (by first | omega | (simp only [ls_, la_, lc_, ln_]; omega))]))).arg.any (aX_.cons (bp_.same rfl) aX_.nil)) (fun av H2 m2 F2 q3 => ?_)
  obtain ⟨b, cb, v, v2, rfl⟩ := q3
  obtain ⟨G, hv, hv2⟩ := F2.three
  simp only [AV.val.injEq, Value.int.injEq, true_and] at hv hv2
  subst hv hv2
  have l2 := m2.len
  simp only [la_, lc_, ln_] at l2
  have cb' := cb
  simp only [AV.cell, Value.oneCell'] at cb'
  have o2 : H2[h0.length + 1]? = some ⟨30, 1, [[.val (.slice none 0 0)]]⟩ := by
   rw [m2.kept _ (by simp; omega)]; (repeat (first | rw [au_ (by omega)] | rw [ay_ (by first | omega | (simp only [ls_, la_, lc_, ln_]; omega))])); exact o1
  have o3 : H2[H1.length]? = some ⟨30, 1, [[a]]⟩ := by
   rw [m2.kept _ (by simp; omega)]; (repeat (first | rw [au_ (by omega)] | rw [ay_ (by first | omega | (simp only [ls_, la_, lc_, ln_]; omega))])); exact o
  have hM2 : aM_ h0 H2 := ⟨by omega, fun z q => by
   rw [m2.kept z (by simp; omega)]; (repeat (first | rw [au_ (by omega)] | rw [ay_ (by first | omega | (simp only [ls_, la_, lc_, ln_]; omega))])); exact hM.kept z q⟩
  by_cases hc : (bu_ y bs[k].Events).2.2 = 0
  ·simp (disch := (first | omega | (simp only [ls_, la_, lc_, ln_]; first | done | omega))) only [ay_, aN_, go_sem, Nat.reduceEqDiff, ↓reduceIte, t7, t26, o3, cb', hc]
   refine ⟨bs.length - (k + 1), by omega, hJ _ _ _ ⟨k + 1, (bu_ y bs[k].Events).1, by simp [upd, t4], by simp [upd, t7], by simp [upd, t24], by simp [upd, t25], by simp [upd], ?_, ?_, ?_, ja_ hy, by rw [hS, k2_ hlt hc], rfl, by omega⟩⟩
   ·first | exact (hM2.add _).set (by omega) | exact ((hM2.add _).set (by omega)).set (by omega) | exact (hM2.set (by omega)).add _
   ·(repeat (first | rw [au_ (by omega)] | rw [ay_ (by first | omega | (simp only [ls_, la_, lc_, ln_]; omega))])); exact o2
   ·refine ⟨b, h.length + 1, H2.length, ?_, cb, by omega, by omega, by simp, .inr (by omega), (G.tree.keep fun z q1 q2 => by simp only [la_, lc_, ln_] at q1; (repeat (first | rw [au_ (by omega)] | rw [ay_ (by first | omega | (simp only [ls_, la_, lc_, ln_]; omega))]))).widen (by simp) (Nat.le_refl _)⟩
    first | exact aH_ (by simp; omega) | (rw [au_ (by omega)]; exact aH_ (by simp; omega)) | (rw [ay_ (by simp; omega)]; exact aH_ (by omega))
  ·have hc' : ((bu_ y bs[k].Events).2.2 = 0) = False := eq_false hc
   simp (disch := (first | omega | (simp only [ls_, la_, lc_, ln_]; first | done | omega))) only [aH_, ay_, aN_, go_sem, Nat.reduceEqDiff, ↓reduceIte, t4, o2, cb', hc', bM_, Option.map_some, ci_]
   rw [hS, li_ hlt hc]
   exact ⟨⟨by first | exact (hM2.add _).set (by omega) | exact ((hM2.add _).set (by omega)).set (by omega) | exact hM2.add _, h9_ (hC_ (by simp; omega)) (by simp; omega) _ _⟩, _, rfl, _, _, rfl⟩
 ·simp (disch := (first | omega | (simp only [ls_, la_, lc_, ln_]; first | done | omega))) only [aH_, go_sem, Nat.reduceEqDiff, ↓reduceIte, t4, t7, t25, t26, o, o1, ca', hlt, ci_]
  rw [hS, l7_ (by omega)]
  exact ⟨⟨hM.set (by omega), h9_ ((hF.keep fun z q _ => au_ (by omega)).widen (by omega) (by simp; omega)) (by simp; omega) _ _⟩, _, ca, _, _, rfl⟩
def c32 : LC :=
 .seq (.ops [.s 3 (.box 30 (.tmp 0)), .s 5 (.box 30 (.tmp 2)), .s 6 (.mov (.const (.bool false)))]) (.seq (.ops [.ld 11 1 3, .m 12 1, .c2 13 22 11 12, .m 10 13, .ex 14 10 0, .ex 15 10 1, .ex 16 10 2, .s 7 (.alloc 30 (.agg
 #[.slice none 0 0])), .st 1 7 14, .m 8 15, .m 9 16]) (.seq (.ops [.m 17 9, .bk 18 .eql false 17 0, .m 19 18, .g 20 19 true (.load (some 1) (.tmp 5)), .g 21 19 true (.call 47 [.tmp 20]), .pf 22 19 21, .m 23 22, .g 24 23
 true (.load (some 1) (.tmp 7)), .g 25 23 true (.load (some 1) (.tmp 5)), .g 26 23 true (.call 70 [.tmp 24, .tmp 25]), .pf 27 23 26, .m 6 27]) .ret))
def yt_ : LF := ⟨3, 28, c32, [.tmp 6]⟩
theorem CU_ : ar_ Tryz.prog Tryz.f32 yt_ := ah_
theorem hF_ (x : ae_) (bs : List aj_) (y : ae_) (hx : ae_.sz x ≤ 1048576) (hb : aq_ aj_.sz bs ≤ 1048576) (hy : ae_.sz y ≤ 1048576) (h : List Row) : aa_ Tryz.prog 32 [.agg (ae_.cells x), .list 0 2 (bs.map aj_.cells), .agg (ae_.cells y)] h (.val (.bool (eF_ x bs y))) := by
 refine ai_ mixed Tryz.func32 CU_ rfl rfl ?_ h
 have hta : aS_ Tryz.prog 22 [.agg [.list 0 3 (x.Nodes.map ab_.cells)], .list 0 2 (bs.map aj_.cells)] (kK_ (cq_ x bs)) om_ := jb_ x bs hx hb
 have htr : ∀ H, aa_ Tryz.prog 47 [.agg [.list 0 3 (y.Nodes.map ab_.cells)]] H (.val (.bool (aE_ y))) := fun H => fo_ y hy H
 simp (disch := (first | omega | (simp only [ls_, la_, lc_, ln_]; first | done | omega))) only [go_sem, Nat.reduceEqDiff, ↓reduceIte, yt_, c32, ae_.cells]
 refine bU_ hta (fun av H1 m1 F1 q1 => ?_)
 obtain ⟨b, cb, v, v2, rfl⟩ := q1
 obtain ⟨G, hv, hv2⟩ := F1.three
 simp only [AV.val.injEq, Value.int.injEq, true_and] at hv hv2
 subst hv hv2
 have l1 := m1.len
 simp only [lc_, ln_] at l1
 have cb' := cb
 simp only [AV.cell, Value.oneCell'] at cb'
 have p0 := m1.at (i := 0) rfl
 have p1 := m1.at (i := 1) rfl
 by_cases hc : (cq_ x bs).2.2 = 0
 case neg =>
  have hc' : ((cq_ x bs).2.2 = 0) = False := eq_false hc
  simp (disch := (first | omega | (simp only [ls_, la_, lc_, ln_]; first | done | omega))) only [aN_, go_sem, Nat.reduceEqDiff, ↓reduceIte, cb', hc']
  exact ad_ (by simp [eF_, hc])
 simp (disch := (first | omega | (simp only [ls_, la_, lc_, ln_]; first | done | omega))) only [ay_, aN_, go_sem, Nat.reduceEqDiff, ↓reduceIte, p1, cb', hc]
 refine aa_.call (htr _) ?_
 by_cases q2 : aE_ y = true
 case neg =>
  have q2' : aE_ y = false := by simpa using q2
  simp (disch := (first | omega | (simp only [ls_, la_, lc_, ln_]; first | done | omega))) only [go_sem, Nat.reduceEqDiff, ↓reduceIte, q2']
  exact ad_ (by simp [eF_, q2'])
 simp (disch := (first | omega | (simp only [ls_, la_, lc_, ln_]; first | done | omega))) only [ay_, aN_, go_sem, Nat.reduceEqDiff, ↓reduceIte, p1, q2]
 have hss : ∀ H, aa_ Tryz.prog 70 [.agg (ae_.cells (cq_ x bs).1), .agg [.list 0 3 (y.Nodes.map ab_.cells)]] H (.val (.bool (fV_ (cq_ x bs).1 y))) := fun H => lq_ _ y (nA_ x bs) H
 refine aa_.call (aa_.anyR rfl hss (aX_.cons (G.tree.keep fun z _ q => by (repeat (first | rw [au_ (by omega)] | rw [ay_ (by first | omega | (simp only [ls_, la_, lc_, ln_]; omega))]))).arg.any (aX_.cons (bp_.same rfl) aX_.nil))) ?_
 simp (disch := (first | omega | (simp only [ls_, la_, lc_, ln_]; first | done | omega))) only [go_sem, Nat.reduceEqDiff, ↓reduceIte]
 exact ad_ (by simp [eF_, hc, q2])
def A9_ : LC :=
 .seq (.ops [.s 4 (.box 30 (.tmp 0)), .s 8 (.alloc 30 (.agg #[.slice none 0 0])), .ki 9 0]) (.seq (.ops [.ld 14 1 4, .m 15 1, .m 16 2, .c3 17 165 14 15 16, .m 13 17, .ex 18 13 0, .ex 19 13 1, .m 10 18, .m 11 19]) (.seq
 (.seq (.ops [.m 20 11, .nt 21 20, .m 22 21, .g 23 22 true (.fieldAddr 0 (.tmp 4)), .g 24 22 true (.load none (.tmp 23)), .g 25 22 true (.lenSl (.tmp 24)), .g 26 22 true (.bin .geq false (.tmp 25) (.const (.int .i64
 120))), .pf 27 22 26]) (.cond (.tmp 27) (.seq (.ops [.s 28 (.build (.agg #[.slice none 0 0]) [(0, 1)] []), .st 1 8 28, .ki 9 4]) .ret) .skip)) (.seq (.ops [.s 29 (.buildSlice 112 3 (.agg #[.string ⟨#[]⟩, .slice none 0 0,
 .string ⟨#[]⟩]) 0 []), .fa 30 0 4, .ln 31 30, .m 32 10, .s 33 (.sliceSl 3 (.tmp 31) none (some (.tmp 32))), .ap 34 112 3 56 29 33, .m 12 34]) (.seq (.ops [.m 35 12, .m 36 1, .m 37 2, .m 38 3, .s 39 (.build (.agg
 #[.string ⟨#[]⟩, .slice none 0 0, .string ⟨#[]⟩]) [(0, 1), (1, 1), (2, 1)] [(0, .tmp 36), (1, .tmp 37), (2, .tmp 38)]), .s 40 (.buildSlice 112 3 (.agg #[.string ⟨#[]⟩, .slice none 0 0, .string ⟨#[]⟩]) 1 [(0, .tmp 39)]),
 .ap 41 112 3 56 35 40, .m 12 41]) (.seq (.seq (.ops [.m 42 11]) (.cond (.tmp 42) (.ops [.m 43 10, .bk 44 .add false 43 1, .m 10 44]) .skip)) (.seq (.ops [.m 45 12, .fa 46 0 4, .ln 47 46, .m 48 10, .s 49 (.sliceSl 3 (.tmp
 47) (some (.tmp 48)) none), .ap 50 112 3 56 45 49, .c1 51 157 50, .s 52 (.build (.agg #[.slice none 0 0]) [(0, 1)] [(0, .tmp 51)]), .st 1 8 52, .ki 9 0]) .ret))))))
def vL_ : LF := ⟨4, 53, A9_, [.cell 8 (some 1), .tmp 9]⟩
theorem yO_ : ar_ Tryz.prog Tryz.f201 vL_ := ah_
theorem re_ (ns : List ab_) : ∀ e ∈ ns.map ab_.cells, e.all AV.cell = true := by
 intro e he
 obtain ⟨x, _, q⟩ := List.mem_map.1 he; subst q
 rfl
theorem kW_ (x : ae_) (n : ByteArray) (s : List ByteArray) (v : ByteArray) (hx : aE_ x = true) (ht : cC_ n s = true) (hv : v.size ≤ 64) (hs : aq_ ByteArray.size s ≤ 1048576) : aS_ Tryz.prog 201 [.agg (ae_.cells x), .val (.string n), .list 0 1 (s.map ao_), .val (.string v)] (e1_ (if dg_ x n s = 0 then ⟨dB_ x.Nodes n s v⟩ else ⟨[]⟩, dg_ x n s)) hR_ := by
 refine bW_ mixed Tryz.func201 yO_ rfl (fun h0 => ?_)
 have hat : ∀ H, aa_ Tryz.prog 165 [.agg [.list 0 3 (x.Nodes.map ab_.cells)], .val (.string n), .list 0 1 (s.map ao_)] H (.tup [.val (.int .i64 (bb_ x.Nodes n s)), .val (.bool (bh_ x.Nodes n s))]) := fun H => jS_ x n s (c2_ hx) hs H
 have hxl := ht_ hx
 have hpl := kL_ x.Nodes n s
 have hcv := re_ x.Nodes
 simp (disch := (first | omega | (simp only [ls_, la_, lc_, ln_]; first | done | omega))) only [aN_, go_sem, Nat.reduceEqDiff, ↓reduceIte, vL_, A9_, ae_.cells]
 refine aa_.call (hat _) ?_
 generalize hH : (h0 ++ [⟨30, 1, [[.list 0 3 (x.Nodes.map ab_.cells)]]⟩, ⟨30, 1, [[.val (.slice none 0 0)]]⟩] : List Row) = H
 have o0 : H[h0.length]? = some ⟨30, 1, [[.list 0 3 (x.Nodes.map ab_.cells)]]⟩ := by rw [← hH, cL_]; rfl
 have o1 : H[h0.length + 1]? = some ⟨30, 1, [[.val (.slice none 0 0)]]⟩ := by rw [← hH, b8_]; rfl
 have hl : H.length = h0.length + 2 := by rw [← hH]; simp
 have hM : aM_ h0 H := by rw [← hH]; exact aM_.app _ _
 clear hH
 have fin : dg_ x n s = 0 → ∀ (H' : List Row) (es : List (List AV)) (k : Nat) (K : AV → List Row → Prop), aM_ H H' → H.length < H'.length → H'[H.length]? = some ⟨112, 3, es⟩ → es = (dB_ x.Nodes n s v).map ab_.cells → k = (dB_ x.Nodes n s v).length →
  (∀ (l : Nat) (H1 : List Row), aM_ H' H1 → FB H'.length H1.length H1 (.own l (dB_ x.Nodes n s v).length) (.list 0 3 ((dB_ x.Nodes n s v).map ab_.cells)) → K (.own l (dB_ x.Nodes n s v).length) H1) →
  callSem Tryz.prog 157 [.own H.length k] H' K := by
  intro hC H' es k K hM' hHl o2 he hk hK
  have hok : aE_ ⟨dB_ x.Nodes n s v⟩ = true := qI_ hx ht hv (by
   unfold dg_ at hC
   split at hC
   ·assumption
   ·cases hC)
  subst he hk
  refine es_ (hg_ (dB_ x.Nodes n s v) (ae_.sz_Nodes (c2_ hok))) (aX_.cons (bp_.res (n := 3) (kM_ o2 (by simp) (nD_ _))) aX_.nil) (fun av H1 m1 F1 q1 => ?_)
  obtain ⟨l, rfl⟩ := q1
  exact hK l H1 m1 F1
 cases hf : bh_ x.Nodes n s
 case true =>
  have hC : dg_ x n s = 0 := by rw [dg_, if_pos (.inl hf)]
  obtain ⟨hp, _, _⟩ := jk_ hf
  have hP : dB_ x.Nodes n s v = x.Nodes.take (bb_ x.Nodes n s) ++ ⟨n, s, v⟩ :: x.Nodes.drop (bb_ x.Nodes n s + 1) := by rw [dB_, if_pos hf]
  rw [hC, if_pos rfl]
  simp (disch := (first | omega | (simp only [ls_, la_, lc_, ln_]; first | done | omega))) only [ay_, aN_, cP_, go_sem, Nat.reduceEqDiff, Nat.reduceAdd, Nat.reduceLeDiff, ↓reduceIte, o0, hpl, bM_, Option.map_some, List.length_map, la_, List.length_take, List.length_drop, lc_, ln_, List.drop_zero, List.nil_append, Nat.zero_add, if_pos]
  have htn : ((bb_ x.Nodes n s : Int) + 1).toNat = bb_ x.Nodes n s + 1 := by omega
  have hML : (x.Nodes.map ab_.cells).length ≤ x.Nodes.length := by simp
  refine ⟨by omega, by omega, fun e he => hcv e (List.mem_of_mem_take he), by omega, by omega, by omega, by omega, fun e he => hcv e (List.mem_of_mem_take (List.mem_of_mem_drop he)), ?_⟩
  refine fin hC _ _ _ _ (aM_.app _ _) (by simp) (aN_ rfl) ?_ ?_ (fun l H1 m1 F1 => ?_)
  ·rw [hP, htn, List.take_of_length_le hML]
   simp only [List.map_append, List.map_cons, List.map_take, List.map_drop]
   rfl
  ·rw [hP, la_, lc_, List.length_take, List.length_drop]; omega
  ·have o2 := m1.at ((ay_ (by omega)).trans o1)
   have l1 := m1.len
   simp only [la_, lc_, ln_] at l1
   simp (disch := (first | omega | (simp only [ls_, la_, lc_, ln_]; first | done | omega))) only [aH_, go_sem, Nat.reduceEqDiff, ↓reduceIte, o2, bM_, Option.map_some, de_]
   exact ⟨⟨((hM.add _).trans m1).set (by omega), hs_ ((aA_.agg (aw_.cons (F1.tree.keep fun z q _ => au_ (by simp at q; omega)) (aw_.nil _ _ _) ⟨by simp; omega, Nat.le_refl _⟩)).widen (by simp; omega) (by simp)) (by simp; omega) _⟩, _, rfl, _, rfl⟩
 case false =>
  by_cases h120 : x.Nodes.length < 120
  ·have hC : dg_ x n s = 0 := by rw [dg_, if_pos (.inr h120)]
   have h120' : ((120 : Int) ≤ (x.Nodes.length : Int)) = False := eq_false (by omega)
   have hP : dB_ x.Nodes n s v = x.Nodes.take (bb_ x.Nodes n s) ++ ⟨n, s, v⟩ :: x.Nodes.drop (bb_ x.Nodes n s) := lD_ hf
   rw [hC, if_pos rfl]
   simp (disch := (first | omega | (simp only [ls_, la_, lc_, ln_]; first | done | omega))) only [ay_, aN_, cP_, go_sem, Nat.reduceEqDiff, Nat.reduceAdd, Nat.reduceLeDiff, ↓reduceIte, o0, hpl, bM_, Option.map_some, List.length_map, la_, List.length_take, List.length_drop, lc_, ln_, List.drop_zero, List.nil_append, Nat.zero_add, h120']
   have hML : (x.Nodes.map ab_.cells).length ≤ x.Nodes.length := by simp
   refine ⟨by omega, by omega, fun e he => hcv e (List.mem_of_mem_take he), by omega, by omega, by omega, by omega, fun e he => hcv e (List.mem_of_mem_take (List.mem_of_mem_drop he)), ?_⟩
   refine fin hC _ _ _ _ (aM_.app _ _) (by simp) (aN_ rfl) ?_ ?_ (fun l H1 m1 F1 => ?_)
   ·rw [hP, List.take_of_length_le hML]
    simp only [List.map_append, List.map_cons, List.map_take, List.map_drop]
    rfl
   ·rw [hP, la_, lc_, List.length_take, List.length_drop]; omega
   ·have o2 := m1.at ((ay_ (by omega)).trans o1)
    have l1 := m1.len
    simp only [la_, lc_, ln_] at l1
    simp (disch := (first | omega | (simp only [ls_, la_, lc_, ln_]; first | done | omega))) only [aH_, go_sem, Nat.reduceEqDiff, ↓reduceIte, o2, bM_, Option.map_some, de_]
    exact ⟨⟨((hM.add _).trans m1).set (by omega), hs_ ((aA_.agg (aw_.cons (F1.tree.keep fun z q _ => au_ (by simp at q; omega)) (aw_.nil _ _ _) ⟨by simp; omega, Nat.le_refl _⟩)).widen (by simp; omega) (by simp)) (by simp; omega) _⟩, _, rfl, _, rfl⟩
  ·have hC : dg_ x n s = 4 := by rw [dg_, if_neg (by rw [hf]; simp; omega)]
   have h120' : ((120 : Int) ≤ (x.Nodes.length : Int)) = True := eq_true (by omega)
   rw [hC, if_neg (by decide)]
   simp (disch := (first | omega | (simp only [ls_, la_, lc_, ln_]; first | done | omega))) only [aH_, go_sem, Nat.reduceEqDiff, ↓reduceIte, o0, o1, List.length_map, h120', bM_, Option.map_some, de_]
   exact ⟨⟨hM.set (by omega), hs_ (hC_ (by simp; omega)) (by simp; omega) _⟩, _, rfl, _, rfl⟩
def tF_ : LC :=
 .seq (.ops [.s 2 (.box 30 (.tmp 0)), .s 3 (.box 126 (.tmp 1)), .s 4 (.alloc 30 (.agg #[.slice none 0 0])), .ki 5 0]) (.seq (.seq (.ops [.fa 6 0 3, .ln 7 6, .bk 8 .eql false 7 1]) (.cond (.tmp 8) (.seq (.ops [.ld 9 1 2,
 .fa 10 1 3, .ln 11 10, .fa 12 2 3, .ln 13 12, .fa 14 3 3, .ln 15 14, .s 16 (.call 201 [.tmp 9, .tmp 11, .tmp 13, .tmp 15]), .ex 17 16 0, .ex 18 16 1, .st 1 4 17, .m 5 18]) .ret) .skip)) (.seq (.ops [.ld 19 1 2, .fa 20 1
 3, .ln 21 20, .fa 22 2 3, .ln 23 22, .c3 24 202 19 21 23, .st 1 4 24, .ki 5 0]) .ret))
def r2_ : LF := ⟨2, 25, tF_, [.cell 4 (some 1), .tmp 5]⟩
theorem Ay_ : ar_ Tryz.prog Tryz.f171 r2_ := ah_
theorem lu_ (x : ae_) (c : aZ_) (hx : aE_ x = true) (hc : cI_ c = true) (hz : aZ_.sz c ≤ 1048576) : aS_ Tryz.prog 171 [.agg (ae_.cells x), .agg (aZ_.cells c)] (e1_ (bO_ x c)) hR_ := by
 refine bW_ mixed Tryz.func171 Ay_ rfl (fun h0 => ?_)
 have hs := aZ_.sz_Subs hz
 have hc2 := hc
 simp only [cI_, Bool.and_eq_true, Bool.or_eq_true, decide_eq_true_eq] at hc2
 by_cases hk1 : c.Kind = 1
 ·have hk1' : (c.Kind = 1) = True := eq_true hk1
  have hv : c.Value.size ≤ 64 := by rcases hc2.2 with ⟨_, q⟩ | ⟨q, _⟩ <;> omega
  have hR : bO_ x c = (if dg_ x c.Name c.Subs = 0 then ⟨dB_ x.Nodes c.Name c.Subs c.Value⟩ else ⟨[]⟩, dg_ x c.Name c.Subs) := by
   unfold bO_ dg_
   rw [if_pos hk1]
   split
   ·rfl
   ·rfl
  have hput : aS_ Tryz.prog 201 [.agg [.list 0 3 (x.Nodes.map ab_.cells)], .val (.string c.Name), .list 0 1 (c.Subs.map ao_), .val (.string c.Value)] (e1_ (bO_ x c)) hR_ := by
   rw [hR]; exact kW_ x c.Name c.Subs c.Value hx hc2.1 hv hs
  simp (disch := (first | omega | (simp only [ls_, la_, lc_, ln_]; first | done | omega))) only [aN_, cP_, go_sem, Nat.reduceEqDiff, Nat.reduceAdd, ↓reduceIte, r2_, tF_, ae_.cells, aZ_.cells, hk1']
  refine bU_ hput (fun av H1 m1 F1 q1 => ?_)
  obtain ⟨b, cb, v, rfl⟩ := q1
  obtain ⟨G, hv⟩ := F1.two
  simp only [AV.val.injEq, Value.int.injEq, true_and] at hv
  subst hv
  have cb' := cb
  simp only [AV.cell, Value.oneCell'] at cb'
  have l1 := m1.len
  simp only [la_, lc_, ln_] at l1
  have p2 := m1.at (i := h0.length + 2) (by rw [b8_]; rfl)
  simp (disch := (first | omega | (simp only [ls_, la_, lc_, ln_]; first | done | omega))) only [aH_, go_sem, Nat.reduceEqDiff, ↓reduceIte, p2, cb', de_]
  exact ⟨⟨((aM_.app h0 _).trans m1).set (by omega), hs_ ((G.tree.keep fun z q _ => au_ (by simp at q; omega)).widen (by simp) (by simp)) (by simp; omega) _⟩, _, cb, _, rfl⟩
 ·have hk1' : (c.Kind = 1) = False := eq_false hk1
  have hR : bO_ x c = (⟨cB_ x.Nodes c.Name c.Subs⟩, 0) := by rw [bO_, if_neg hk1]
  have hkill : aS_ Tryz.prog 202 [.agg [.list 0 3 (x.Nodes.map ab_.cells)], .val (.string c.Name), .list 0 1 (c.Subs.map ao_)] (.agg (ae_.cells ⟨cB_ x.Nodes c.Name c.Subs⟩)) (fun a => ∃ l, a = .agg [.own l (cB_ x.Nodes c.Name c.Subs).length]) := kF_ x c.Name c.Subs (c2_ hx)
  rw [hR]
  simp (disch := (first | omega | (simp only [ls_, la_, lc_, ln_]; first | done | omega))) only [aN_, cP_, go_sem, Nat.reduceEqDiff, Nat.reduceAdd, ↓reduceIte, r2_, tF_, ae_.cells, aZ_.cells, hk1']
  refine bU_ hkill (fun av H1 m1 F1 q1 => ?_)
  obtain ⟨l, rfl⟩ := q1
  have l1 := m1.len
  simp only [la_, lc_, ln_] at l1
  have p2 := m1.at (i := h0.length + 2) (by rw [b8_]; rfl)
  simp (disch := (first | omega | (simp only [ls_, la_, lc_, ln_]; first | done | omega))) only [aH_, go_sem, Nat.reduceEqDiff, ↓reduceIte, p2, de_]
  exact ⟨⟨((aM_.app h0 _).trans m1).set (by omega), hs_ ((F1.tree.keep fun z q _ => au_ (by simp at q; omega)).widen (by simp) (by simp)) (by simp; omega) _⟩, _, rfl, _, rfl⟩
def jd_ (x : ae_) (c : aZ_) : ae_ × Int := if (aE_ x && cI_ c) = true then bO_ x c else (⟨[]⟩, 1)
def yx_ : LC :=
 .seq (.ops [.s 2 (.box 30 (.tmp 0)), .s 3 (.box 126 (.tmp 1)), .s 4 (.alloc 30 (.agg #[.slice none 0 0])), .ki 5 0]) (.seq (.seq (.ops [.ld 6 1 2, .c1 7 41 6, .nt 8 7, .m 9 8, .g 10 9 false (.load (some 4) (.tmp 3)), .g
 11 9 false (.call 170 [.tmp 10]), .g 12 9 false (.un .not (.tmp 11)), .pt 13 9 12]) (.cond (.tmp 13) (.seq (.ops [.s 14 (.build (.agg #[.slice none 0 0]) [(0, 1)] []), .st 1 4 14, .ki 5 1]) .ret) .skip)) (.seq (.ops [.ld
 15 1 2, .ld 16 4 3, .c2 17 171 15 16, .ex 18 17 0, .ex 19 17 1, .st 1 4 18, .m 5 19]) .ret))
def ww_ : LF := ⟨2, 20, yx_, [.cell 4 (some 1), .tmp 5]⟩
theorem zh_ : ar_ Tryz.prog Tryz.f133 ww_ := ah_
theorem jZ_ (x : ae_) (c : aZ_) (hx : ae_.sz x ≤ 1048576) (hz : aZ_.sz c ≤ 1048576) : aS_ Tryz.prog 133 [.agg (ae_.cells x), .agg (aZ_.cells c)] (e1_ (jd_ x c)) hR_ := by
 refine bW_ mixed Tryz.func133 zh_ rfl (fun h0 => ?_)
 have htr : ∀ H, aa_ Tryz.prog 41 [.agg [.list 0 3 (x.Nodes.map ab_.cells)]] H (.val (.bool (aE_ x))) := fun H => cj_ x hx H
 have hch : ∀ H, aa_ Tryz.prog 170 [.agg [.val (.int .i64 c.Kind), .val (.string c.Name), .list 0 1 (c.Subs.map ao_), .val (.string c.Value)]] H (.val (.bool (cI_ c))) := fun H => lH_ c hz H
 simp (disch := (first | omega | (simp only [ls_, la_, lc_, ln_]; first | done | omega))) only [aN_, go_sem, Nat.reduceEqDiff, Nat.reduceAdd, ↓reduceIte, ww_, yx_, ae_.cells, aZ_.cells]
 refine aa_.call (htr _) ?_
 by_cases q1 : aE_ x = true
 case neg =>
  have q1' : aE_ x = false := by simpa using q1
  have hR : jd_ x c = (⟨[]⟩, 1) := by simp [jd_, q1']
  simp (disch := (first | omega | (simp only [ls_, la_, lc_, ln_]; first | done | omega))) only [ni_, go_sem, Nat.reduceEqDiff, ↓reduceIte, q1', bM_, Option.map_some, de_]
  rw [hR]
  exact ⟨⟨by first | exact aM_.app _ _ | exact (aM_.app _ _).set (by omega), hs_ (hC_ (by simp)) (by simp) _⟩, _, rfl, _, rfl⟩
 simp (disch := (first | omega | (simp only [ls_, la_, lc_, ln_]; first | done | omega))) only [cP_, go_sem, Nat.reduceEqDiff, Nat.reduceAdd, ↓reduceIte, q1]
 refine aa_.call (hch _) ?_
 by_cases q2 : cI_ c = true
 case neg =>
  have q2' : cI_ c = false := by simpa using q2
  have hR : jd_ x c = (⟨[]⟩, 1) := by simp [jd_, q2']
  simp (disch := (first | omega | (simp only [ls_, la_, lc_, ln_]; first | done | omega))) only [ni_, go_sem, Nat.reduceEqDiff, ↓reduceIte, q2', bM_, Option.map_some, de_]
  rw [hR]
  exact ⟨⟨by first | exact aM_.app _ _ | exact (aM_.app _ _).set (by omega), hs_ (hC_ (by simp)) (by simp) _⟩, _, rfl, _, rfl⟩
 have hR : jd_ x c = bO_ x c := by simp [jd_, q1, q2]
 have hdo : aS_ Tryz.prog 171 [.agg [.list 0 3 (x.Nodes.map ab_.cells)], .agg [.val (.int .i64 c.Kind), .val (.string c.Name), .list 0 1 (c.Subs.map ao_), .val (.string c.Value)]] (e1_ (bO_ x c)) hR_ := lu_ x c q1 q2 hz
 rw [hR]
 simp (disch := (first | omega | (simp only [ls_, la_, lc_, ln_]; first | done | omega))) only [aN_, cP_, go_sem, Nat.reduceEqDiff, Nat.reduceAdd, ↓reduceIte, q2]
 refine bU_ hdo (fun av H1 m1 F1 q3 => ?_)
 obtain ⟨b, cb, v, rfl⟩ := q3
 obtain ⟨G, hv⟩ := F1.two
 simp only [AV.val.injEq, Value.int.injEq, true_and] at hv
 subst hv
 have cb' := cb
 simp only [AV.cell, Value.oneCell'] at cb'
 have l1 := m1.len
 simp only [la_, lc_, ln_] at l1
 have p2 := m1.at (i := h0.length + 2) (by rw [b8_]; rfl)
 simp (disch := (first | omega | (simp only [ls_, la_, lc_, ln_]; first | done | omega))) only [aH_, go_sem, Nat.reduceEqDiff, ↓reduceIte, p2, cb', de_]
 exact ⟨⟨((aM_.app h0 _).trans m1).set (by omega), hs_ ((G.tree.keep fun z q _ => au_ (by simp at q; omega)).widen (by simp) (by simp)) (by simp; omega) _⟩, _, cb, _, rfl⟩
def c84 : LC :=
 .seq (.ops [.s 2 (.box 30 (.tmp 0)), .s 3 (.box 79 (.tmp 1)), .s 4 (.alloc 30 (.agg #[.slice none 0 0])), .ki 5 0]) (.seq (.gops [.ld 6 1 2, .ld 7 5 3] [(.c1 8 134 7, [.ld 6 1 2]), (.c2 9 133 6 8, []), (.ex 10 9 0, []),
 (.ex 11 9 1, []), (.st 1 4 10, []), (.m 5 11, [])]) .ret)
def Co_ : LF := ⟨2, 12, c84, [.cell 4 (some 1), .tmp 5]⟩
theorem C2_ : ar_ Tryz.prog Tryz.f84 Co_ := ah_
theorem kg_ (x : ae_) (e : ac_) (hx : aE_ x = true) (hn : bi_ e = true) (ht : bR_ e = true) (hz : ac_.sz e ≤ 1048576) : aS_ Tryz.prog 84 [.agg (ae_.cells x), .agg (ac_.cells e)] (e1_ (bO_ x (dM_ e))) hR_ := by
 refine bW_ mixed Tryz.func84 C2_ rfl (fun h0 => ?_)
 have hch : aS_ Tryz.prog 134 [.agg [.val (.int .i64 e.Kind), .val (.string e.Name), .list 0 1 (e.Subs.map ao_), .val (.string e.Value), .val (.int .i64 e.N)]] (.agg (aZ_.cells (dM_ e))) (fun a => ∃ l, a = .agg [.val (.int .i64 (dM_ e).Kind), .val (.string e.Name), .own l e.Subs.length, .val (.string e.Value)]) := i9_ e hz
 have hcz : aZ_.sz (dM_ e) ≤ 1048576 := Nat.le_trans (Nat.le_refl (e.Name.size + aq_ ByteArray.size e.Subs + e.Value.size)) hz
 have hdc : jd_ x (dM_ e) = bO_ x (dM_ e) := by simp [jd_, hx, k4_ hn ht]
 simp (disch := (first | omega | (simp only [ls_, la_, lc_, ln_]; first | done | omega))) only [aN_, cP_, go_sem, Nat.reduceEqDiff, Nat.reduceAdd, ↓reduceIte, Co_, c84, ae_.cells, ac_.cells]
 refine bU_ hch (fun av H1 m1 F1 q3 => ?_)
 obtain ⟨l, rfl⟩ := q3
 have l1 := m1.len
 simp only [la_, lc_, ln_] at l1
 have p0 := m1.at (i := h0.length) (by rw [cL_]; rfl)
 have p2 := m1.at (i := h0.length + 2) (by rw [b8_]; rfl)
 simp (disch := (first | omega | (simp only [ls_, la_, lc_, ln_]; first | done | omega))) only [go_sem, Nat.reduceEqDiff, ↓reduceIte, p0]
 refine es_ (jZ_ x (dM_ e) (c2_ hx) hcz) (aX_.cons (bp_.same rfl) (aX_.cons F1.arg.any aX_.nil)) (fun av H2 m2 F2 q4 => ?_)
 obtain ⟨b, cb, v, rfl⟩ := q4
 obtain ⟨G, hv⟩ := F2.two
 simp only [AV.val.injEq, Value.int.injEq, true_and] at hv
 subst hv
 rw [hdc] at G ⊢
 have cb' := cb
 simp only [AV.cell, Value.oneCell'] at cb'
 have l2 := m2.len
 have p3 := m2.at p2
 simp (disch := (first | omega | (simp only [ls_, la_, lc_, ln_]; first | done | omega))) only [aH_, go_sem, Nat.reduceEqDiff, ↓reduceIte, p3, cb', de_]
 exact ⟨⟨(((aM_.app h0 _).trans m1).trans m2).set (by omega), hs_ ((G.tree.keep fun z q _ => au_ (by omega)).widen (by omega) (by simp)) (by simp; omega) _⟩, _, cb, _, rfl⟩
theorem uM_ {e : ac_} (hn : bi_ e = true) (hr : bq_ e = false) : bR_ e = true := by
 cases ht : bR_ e
 ·rw [oF_ hn ht] at hr; cases hr
 ·rfl
theorem sQ_ {e : ac_} (hr : bq_ e = true) : bR_ e = false := by
 simp only [bq_, Bool.or_eq_true, decide_eq_true_eq] at hr
 simp only [bR_, Bool.or_eq_false_iff, decide_eq_false_iff_not]
 omega
structure jG_ (L : Nat) (a0 : AV) (x0 : ae_) (h : List Row) (y : ae_) : Prop where
 out : ∃ a, h[L]? = some ⟨30, 1, [[a]]⟩ ∧ a.cell = true ∧ ((a = a0 ∧ y = x0) ∨ aA_ (L + 2) h.length h (.agg [a]) (.agg (ae_.cells y)))
theorem jG_.lt {L : Nat} {a0 : AV} {x0 y : ae_} {h : List Row} (T : jG_ L a0 x0 h y) : L < h.length := by
 obtain ⟨a, o, _⟩ := T
 exact (List.getElem?_eq_some_iff.1 o).1
theorem jG_.keep {L : Nat} {a0 : AV} {x0 y : ae_} {h h' : List Row} (T : jG_ L a0 x0 h y) (hk : ∀ z, L ≤ z → z < h.length → z ≠ L + 1 → h'[z]? = h[z]?) (hl : h.length ≤ h'.length) : jG_ L a0 x0 h' y := by
 have hL := T.lt
 obtain ⟨a, o, ca, hF⟩ := T
 refine ⟨a, (hk L (Nat.le_refl _) hL (by omega)).trans o, ca, ?_⟩
 rcases hF with q | q
 ·exact .inl q
 ·exact .inr ((q.keep fun z q1 q2 => hk z (by omega) q2 (by omega)).widen (Nat.le_refl _) hl)
def c43 : LC :=
 .seq (.ops [.s 2 (.box 30 (.tmp 0)), .s 4 (.alloc 30 (.agg #[.slice none 0 0])), .ki 5 0, .ki 6 0]) (.seq (.seq (.ops [.ki 7 0]) (.block 0 (.loop (.seq (.seq (.ops [.m 10 7, .m 11 1, .ll 12 11, .bb 13 .lss false 10 12])
 (.cond (.tmp 13) .skip (.exit 0))) (.seq (.block 1 (.seq (.seq (.ops [.m 16 1, .m 17 7, .ia 18 5 16 17, .ld 19 5 18, .c1 20 81 19]) (.cond (.tmp 20) (.seq (.seq (.gops [.ld 21 1 2, .m 22 1, .m 23 7, .ia 24 5 22 23, .ld
 25 5 24, .m 27 1, .m 28 7, .ia 29 5 27 28, .ld 30 5 29] [(.c2 26 83 21 25, [.m 27 1, .m 28 7, .ia 29 5 27 28, .ld 30 5 29]), (.c2 31 82 26 30, []), (.nt 32 31, [])]) (.cond (.tmp 32) (.seq (.ops [.s 33 (.build (.agg
 #[.slice none 0 0]) [(0, 1)] []), .m 34 7, .st 1 4 33, .m 5 34, .ki 6 5]) .ret) .skip)) (.exit 1)) .skip)) (.seq (.gops [.ld 36 1 2, .m 37 1, .m 38 7, .ia 39 5 37 38, .ld 40 5 39] [(.c2 41 84 36 40, []), (.m 35 41, []),
 (.ex 42 35 0, []), (.ex 43 35 1, []), (.s 8 (.alloc 30 (.agg #[.slice none 0 0])), [.ld 36 1 2, .m 37 1, .m 38 7, .ia 39 5 37 38, .ld 40 5 39]), (.st 1 8 42, []), (.m 9 43, [])]) (.seq (.seq (.ops [.m 44 9, .bk 45 .neq
 false 44 0]) (.cond (.tmp 45) (.seq (.ops [.s 46 (.build (.agg #[.slice none 0 0]) [(0, 1)] []), .m 47 7, .m 48 9, .st 1 4 46, .m 5 47, .m 6 48]) .ret) .skip)) (.ops [.ld 49 1 8, .st 1 2 49]))))) (.ops [.m 14 7, .bk 15
 .add false 14 1, .m 7 15])))))) (.seq (.ops [.ld 50 1 2, .st 1 4 50, .ki 5 0, .ki 6 0]) .ret))
def yF_ : LF := ⟨2, 51, c43, [.cell 4 (some 1), .tmp 5, .tmp 6]⟩
theorem CA_ : ar_ Tryz.prog Tryz.f43 yF_ := qo_
theorem ll_ {H : List Row} {a0 : AV} (x : ae_) (es : List ac_) (ca0 : a0.cell = true) (hA0 : ∀ X : List Row, aM_ H X → bp_ X (.agg [a0]) (.agg (ae_.cells x))) (hx : aE_ x = true) (hn : ∀ e ∈ es, bi_ e = true) (hz : aq_ ac_.sz es ≤ 1048576) {K : AV → List Row → Prop}
 (hk : ∀ (b : AV) (H' : List Row), aM_ H H' → b.cell = true → ((b = a0 ∧ (b3_ x es 0).1 = x) ∨ aA_ H.length H'.length H' (.agg [b]) (.agg (ae_.cells (b3_ x es 0).1))) → K (.tup [.agg [b], .val (.int .i64 (b3_ x es 0).2.1), .val (.int .i64 (b3_ x es 0).2.2)]) H') :
 callSem Tryz.prog 43 [.agg [a0], .list 0 5 (es.map ac_.cells)] H K := by
 refine bD_ mixed Tryz.func43 CA_ (c7_ rfl ?_)
 have hl := at_ hz
 have ca0' := ca0
 simp only [AV.cell, Value.oneCell'] at ca0'
 simp (disch := (first | omega | (simp only [ls_, la_, lc_, ln_]; first | done | omega))) only [go_sem, ↓reduceIte, yF_, c43, ca0']
 refine aO_ (fun n t h => ∃ (k : Nat) (y : ae_), t 1 = .list 0 5 (es.map ac_.cells) ∧ t 2 = .ptr H.length 1 0 0 ∧ t 4 = .ptr (H.length + 1) 1 0 0 ∧ t 7 = .val (.int .i64 k) ∧ aM_ H h ∧ h[H.length + 1]? = some ⟨30, 1, [[.val (.slice none 0 0)]]⟩ ∧
  jG_ H.length a0 x h y ∧ aE_ y = true ∧ b3_ x es 0 = b3_ y (es.drop k) k ∧ n = es.length - k ∧ k ≤ es.length) es.length ⟨0, x, rfl, rfl, rfl, rfl, aM_.app _ _, by rw [b8_]; rfl, ⟨a0, by rw [cL_]; rfl, ca0, .inl ⟨rfl, rfl⟩⟩, hx, rfl, rfl, Nat.zero_le _⟩ ?_
 rintro J hJ n t h ⟨k, y, t1, t2, t4, t7, hM, o1, T, hy, hS, rfl, hk'⟩
 have ml := hM.len
 have hlL := T.lt
 obtain ⟨a, o0, ca, hF⟩ := id T
 have hol := (List.getElem?_eq_some_iff.1 o1).1
 have ca' := ca
 simp only [AV.cell, Value.oneCell'] at ca'
 have hA : bp_ h (.agg [a]) (.agg (ae_.cells y)) := by
  rcases hF with ⟨rfl, rfl⟩ | q
  ·exact hA0 h hM
  ·exact q.arg.any
 have hnil : ∀ X : List Row, aM_ H X → aA_ H.length X.length X (.agg [.val (.slice none 0 0)]) (.agg (ae_.cells ⟨[]⟩)) := fun X m => hC_ m.len
 skip
 by_cases hlt : k < es.length
 ·have hnk := hn es[k] (List.getElem_mem hlt)
  have hzk : ac_.sz es[k] ≤ 1048576 := bt_ hz (List.getElem_mem hlt)
  have hrd : ∀ X, aa_ Tryz.prog 81 [.agg [.val (.int .i64 es[k].Kind), .val (.string es[k].Name), .list 0 1 (es[k].Subs.map ao_), .val (.string es[k].Value), .val (.int .i64 es[k].N)]] X (.val (.bool (bq_ es[k]))) := fun X => ik_ es[k] X
  simp (disch := (first | omega | (simp only [ls_, la_, lc_, ln_]; first | done | omega))) only [go_sem, Nat.reduceEqDiff, Nat.reduceAdd, ↓reduceIte, t1, t7, hlt, ac_.cells]
  refine aa_.call (hrd _) ?_
  cases hr : bq_ es[k]
  case true =>
   have ht := sQ_ hr
   have hAp : bw_ y es[k] = if bo_ (bc_ y es[k]) es[k] = true then (y, 0) else (⟨[]⟩, 5) := by rw [bw_, if_neg (by rw [ht]; simp)]
   have hag : aS_ Tryz.prog 83 [.agg (ae_.cells y), .agg [.val (.int .i64 es[k].Kind), .val (.string es[k].Name), .list 0 1 (es[k].Subs.map ao_), .val (.string es[k].Value), .val (.int .i64 es[k].N)]] (.agg (ac_.cells (bc_ y es[k]))) (gD_ es[k]) := j0_ y es[k] (c2_ hy) hzk hy hnk hr
   have hse : ∀ X, aa_ Tryz.prog 82 [.agg (ac_.cells (bc_ y es[k])), .agg [.val (.int .i64 es[k].Kind), .val (.string es[k].Name), .list 0 1 (es[k].Subs.map ao_), .val (.string es[k].Value), .val (.int .i64 es[k].N)]] X (.val (.bool (bo_ (bc_ y es[k]) es[k]))) := fun X => jl_ (bc_ y es[k]) es[k] (lb_ hy hnk hzk) X
   simp (disch := (first | omega | (simp only [ls_, la_, lc_, ln_]; first | done | omega))) only [go_sem, Nat.reduceEqDiff, Nat.reduceAdd, ↓reduceIte, t1, t2, t7, o0, ac_.cells]
   refine es_ hag (aX_.cons hA (aX_.cons (bp_.same rfl) aX_.nil)) (fun av H1 m1 F1 q1 => ?_)
   obtain ⟨l, v, kk, rfl⟩ := q1
   have l1 := m1.len
   have p0 := m1.at o0
   have p1 := m1.at o1
   have hM1 : aM_ H H1 := hM.trans m1
   skip
   simp (disch := (first | omega | (simp only [ls_, la_, lc_, ln_]; first | done | omega))) only [go_sem, Nat.reduceEqDiff, Nat.reduceAdd, ↓reduceIte, t1, t7, ac_.cells]
   refine aa_.call (aa_.anyR rfl hse (aX_.cons F1.tree.arg.any (aX_.cons (bp_.same rfl) aX_.nil))) ?_
   cases hq : bo_ (bc_ y es[k]) es[k]
   ·rw [hq] at hAp
    have hc : ¬ (bw_ y es[k]).2 = 0 := by rw [hAp]; simp
    rw [hS, hW_ hlt hc, hAp] at hk
    simp (disch := (first | omega | (simp only [ls_, la_, lc_, ln_]; first | done | omega))) only [aH_, go_sem, Nat.reduceEqDiff, ↓reduceIte, t4, t7, p1, bM_, Option.map_some, ci_]
    exact hk _ _ (hM1.set (by omega)) rfl (.inr (hnil _ (hM1.set (by omega))))
   ·rw [hq] at hAp
    have hc : (bw_ y es[k]).2 = 0 := by rw [hAp]; rfl
    have hA1 : (bw_ y es[k]).1 = y := by rw [hAp]; rfl
    simp (disch := (first | omega | (simp only [ls_, la_, lc_, ln_]; first | done | omega))) only [go_sem, Nat.reduceEqDiff, ↓reduceIte, t7]
    exact ⟨es.length - (k + 1), by omega, hJ _ _ _ ⟨k + 1, y, by simp [upd, t1], by simp [upd, t2], by simp [upd, t4], by simp [upd], hM1, p1, T.keep (fun z q1 q2 q3 => m1.kept z q2) l1, hy, by rw [hS, hN_ hlt hc, hA1], rfl, by omega⟩⟩
  case false =>
   have ht := uM_ hnk hr
   have hAp : bw_ y es[k] = bO_ y (dM_ es[k]) := by rw [bw_, if_pos ht]
   have htn : aS_ Tryz.prog 84 [.agg (ae_.cells y), .agg [.val (.int .i64 es[k].Kind), .val (.string es[k].Name), .list 0 1 (es[k].Subs.map ao_), .val (.string es[k].Value), .val (.int .i64 es[k].N)]] (e1_ (bw_ y es[k])) hR_ := by
    rw [hAp]; exact kg_ y es[k] hy hnk ht hzk
   simp (disch := (first | omega | (simp only [ls_, la_, lc_, ln_]; first | done | omega))) only [go_sem, Nat.reduceEqDiff, Nat.reduceAdd, ↓reduceIte, t1, t2, t7, o0, ac_.cells]
   refine es_ htn (aX_.cons hA (aX_.cons (bp_.same rfl) aX_.nil)) (fun av H1 m1 F1 q1 => ?_)
   obtain ⟨b, cb, v, rfl⟩ := q1
   obtain ⟨G, hv⟩ := F1.two
   simp only [AV.val.injEq, Value.int.injEq, true_and] at hv
   subst hv
   have l1 := m1.len
   have cb' := cb
   simp only [AV.cell, Value.oneCell'] at cb'
   have p0 := m1.at o0
   have p1 := m1.at o1
   have hM1 : aM_ H H1 := hM.trans m1
   skip
   by_cases hc : (bw_ y es[k]).2 = 0
   ·simp (disch := (first | omega | (simp only [ls_, la_, lc_, ln_]; first | done | omega))) only [ay_, aN_, go_sem, Nat.reduceEqDiff, Nat.reduceAdd, ↓reduceIte, t1, t2, t7, p0, cb', hc, ac_.cells]
    refine ⟨es.length - (k + 1), by omega, hJ _ _ _ ⟨k + 1, (bw_ y es[k]).1, by simp [upd, t1], by simp [upd, t2], by simp [upd, t4], by simp [upd], ?_, ?_, ?_, kc_ hy hnk, by rw [hS, hN_ hlt hc], rfl, by omega⟩⟩
    ·first | exact (hM1.add _).set (by omega) | exact ((hM1.add _).set (by omega)).set (by omega) | exact (hM1.set (by omega)).add _
    ·(repeat (first | rw [au_ (by omega)] | rw [ay_ (by first | omega | (simp only [ls_, la_, lc_, ln_]; omega))])); exact p1
    ·refine ⟨b, ?_, cb, .inr ((G.tree.keep fun z q1 q2 => by (repeat (first | rw [au_ (by omega)] | rw [ay_ (by first | omega | (simp only [ls_, la_, lc_, ln_]; omega))]))).widen (by omega) (by simp))⟩
     first | exact aH_ (by simp; omega) | (rw [au_ (by omega)]; exact aH_ (by simp; omega)) | (rw [ay_ (by simp; omega)]; exact aH_ (by omega))
   ·have hc' : ((bw_ y es[k]).2 = 0) = False := eq_false hc
    rw [hS, hW_ hlt hc] at hk
    simp (disch := (first | omega | (simp only [ls_, la_, lc_, ln_]; first | done | omega))) only [aH_, ay_, aN_, go_sem, Nat.reduceEqDiff, Nat.reduceAdd, ↓reduceIte, t1, t2, t4, t7, p0, p1, cb', hc', ac_.cells, bM_, Option.map_some, ci_]
    have hM2 : ∀ r : Row, aM_ H (H1 ++ [r]) := fun r => hM1.add _
    refine hk _ _ ?_ rfl (.inr (hnil _ ?_))
    all_goals first | exact (hM2 _).set (by omega) | exact ((hM2 _).set (by omega)).set (by omega) | exact hM2 _
 ·rw [hS, k6_ (by omega)] at hk
  simp (disch := (first | omega | (simp only [ls_, la_, lc_, ln_]; first | done | omega))) only [aH_, go_sem, Nat.reduceEqDiff, ↓reduceIte, t1, t2, t4, t7, o0, o1, ca', hlt, ci_]
  refine hk _ _ (hM.set (by omega)) ca ?_
  rcases hF with q | q
  ·exact .inl q
  ·exact .inr ((q.keep fun z q1 q2 => au_ (by omega)).widen (by omega) (by simp))
theorem uh_ {H X : List Row} {b : AV} {x y : ae_} (h : (b = .list 0 3 (x.Nodes.map ab_.cells) ∧ y = x) ∨ aA_ H.length X.length X (.agg [b]) (.agg (ae_.cells y))) {X' : List Row} (m : ∀ z, H.length ≤ z → z < X.length → X'[z]? = X[z]?) : bp_ X' (.agg [b]) (.agg (ae_.cells y)) := by
 rcases h with ⟨rfl, rfl⟩ | q
 ·exact bp_.same rfl
 ·exact (q.keep fun z q1 q2 => m z q1 q2).arg.any
def c59 : LC :=
 .seq (.ops [.s 2 (.box 30 (.tmp 0)), .s 4 (.alloc 30 (.agg #[.slice none 0 0])), .ki 5 0, .ki 6 0]) (.seq (.seq (.ops [.ki 7 0]) (.block 0 (.loop (.seq (.seq (.ops [.m 11 7, .m 12 1, .ll 13 12, .bb 14 .lss false 11 13])
 (.cond (.tmp 14) .skip (.exit 0))) (.seq (.block 1 (.seq (.gops [.ld 18 1 2, .m 19 1, .m 20 7, .ia 21 2 19 20, .fa 22 1 21, .ln 23 22] [(.c2 24 43 18 23, []), (.m 17 24, []), (.ex 25 17 0, []), (.ex 26 17 1, []), (.ex 27
 17 2, []), (.s 8 (.alloc 30 (.agg #[.slice none 0 0])), [.ld 18 1 2, .m 19 1, .m 20 7, .ia 21 2 19 20, .fa 22 1 21, .ln 23 22]), (.st 1 8 25, []), (.m 9 26, []), (.m 10 27, [])]) (.seq (.seq (.ops [.m 28 10, .bk 29 .neq
 false 28 0]) (.cond (.tmp 29) (.seq (.ops [.s 30 (.build (.agg #[.slice none 0 0]) [(0, 1)] []), .m 31 7, .m 32 10, .st 1 4 30, .m 5 31, .m 6 32]) .ret) .skip)) (.ops [.ld 33 1 8, .st 1 2 33])))) (.ops [.m 15 7, .bk 16
 .add false 15 1, .m 7 16])))))) (.seq (.ops [.ld 34 1 2, .st 1 4 34, .ki 5 0, .ki 6 0]) .ret))
def A0_ : LF := ⟨2, 35, c59, [.cell 4 (some 1), .tmp 5, .tmp 6]⟩
theorem Cu_ : ar_ Tryz.prog Tryz.f59 A0_ := ah_
theorem kU_ {H : List Row} (x : ae_) (bs : List aj_) (hx : aE_ x = true) (hn : b6_ bs = true) (hz : aq_ aj_.sz bs ≤ 1048576) {K : AV → List Row → Prop}
 (hk : ∀ (b : AV) (H' : List Row), aM_ H H' → b.cell = true → ((b = .list 0 3 (x.Nodes.map ab_.cells) ∧ (bX_ x bs 0).1 = x) ∨ aA_ H.length H'.length H' (.agg [b]) (.agg (ae_.cells (bX_ x bs 0).1))) → K (.tup [.agg [b], .val (.int .i64 (bX_ x bs 0).2.1), .val (.int .i64 (bX_ x bs 0).2.2)]) H') :
 callSem Tryz.prog 59 [.agg [.list 0 3 (x.Nodes.map ab_.cells)], .list 0 2 (bs.map aj_.cells)] H K := by
 refine bD_ mixed Tryz.func59 Cu_ (c7_ rfl ?_)
 have hl := at_ hz
 simp (disch := (first | omega | (simp only [ls_, la_, lc_, ln_]; first | done | omega))) only [go_sem, ↓reduceIte, A0_, c59]
 refine aO_ (fun n t h => ∃ (k : Nat) (y : ae_), t 1 = .list 0 2 (bs.map aj_.cells) ∧ t 2 = .ptr H.length 1 0 0 ∧ t 4 = .ptr (H.length + 1) 1 0 0 ∧ t 7 = .val (.int .i64 k) ∧ aM_ H h ∧ h[H.length + 1]? = some ⟨30, 1, [[.val (.slice none 0 0)]]⟩ ∧
  jG_ H.length (.list 0 3 (x.Nodes.map ab_.cells)) x h y ∧ aE_ y = true ∧ bX_ x bs 0 = bX_ y (bs.drop k) k ∧ n = bs.length - k ∧ k ≤ bs.length) bs.length ⟨0, x, rfl, rfl, rfl, rfl, aM_.app _ _, by rw [b8_]; rfl, ⟨_, by rw [cL_]; rfl, rfl, .inl ⟨rfl, rfl⟩⟩, hx, rfl, rfl, Nat.zero_le _⟩ ?_
 rintro J hJ n t h ⟨k, y, t1, t2, t4, t7, hM, o1, T, hy, hS, rfl, hk'⟩
 have ml := hM.len
 have hlL := T.lt
 obtain ⟨a, o0, ca, hF⟩ := id T
 have hol := (List.getElem?_eq_some_iff.1 o1).1
 have ca' := ca
 simp only [AV.cell, Value.oneCell'] at ca'
 have hA : ∀ X, aM_ h X → bp_ X (.agg [a]) (.agg (ae_.cells y)) := fun X m => by
  rcases hF with ⟨rfl, rfl⟩ | q
  ·exact bp_.same rfl
  ·exact (q.keep fun z _ q2 => m.kept z q2).arg.any
 by_cases hlt : k < bs.length
 ·have hbk := (pz_ hn).2 bs[k] (List.getElem_mem hlt)
  have hnk := ql_ hbk
  have hzk : aq_ ac_.sz bs[k].Events ≤ 1048576 := aj_.sz_Events (bt_ hz (List.getElem_mem hlt))
  have hrr := qR_ hy hnk
  simp (disch := (first | omega | (simp only [ls_, la_, lc_, ln_]; first | done | omega))) only [go_sem, Nat.reduceEqDiff, Nat.reduceAdd, Nat.reduceLeDiff, ↓reduceIte, t1, t2, t7, o0, hlt, aj_.cells]
  refine ll_ y bs[k].Events ca hA hy (kB_ hnk).2 hzk (fun b H1 m1 cb hb => ?_)
  rw [← hrr] at hb ⊢
  have l1 := m1.len
  have cb' := cb
  simp only [AV.cell, Value.oneCell'] at cb'
  have p0 := m1.at o0
  have p1 := m1.at o1
  have hM1 : aM_ H H1 := hM.trans m1
  by_cases hc : (bu_ y bs[k].Events).2.2 = 0
  ·simp (disch := (first | omega | (simp only [ls_, la_, lc_, ln_]; first | done | omega))) only [ay_, aN_, go_sem, Nat.reduceEqDiff, Nat.reduceAdd, Nat.reduceLeDiff, ↓reduceIte, t1, t2, t7, p0, cb', hc, aj_.cells]
   refine ⟨bs.length - (k + 1), by omega, hJ _ _ _ ⟨k + 1, (bu_ y bs[k].Events).1, by simp [upd, t1], by simp [upd, t2], by simp [upd, t4], by simp [upd], ?_, ?_, ?_, ja_ hy, by rw [hS, k2_ hlt hc], rfl, by omega⟩⟩
   ·first | exact (hM1.add _).set (by omega) | exact ((hM1.add _).set (by omega)).set (by omega) | exact (hM1.set (by omega)).add _
   ·(repeat (first | rw [au_ (by omega)] | rw [ay_ (by first | omega | (simp only [ls_, la_, lc_, ln_]; omega))])); exact p1
   ·have hnew : ∀ X : List Row, H1.length ≤ X.length → (∀ z, H.length + 2 ≤ z → z < H1.length → X[z]? = H1[z]?) → (b = .list 0 3 (x.Nodes.map ab_.cells) ∧ (bu_ y bs[k].Events).1 = x) ∨ aA_ (H.length + 2) X.length X (.agg [b]) (.agg (ae_.cells (bu_ y bs[k].Events).1)) := fun X hl2 hX => by
     rcases hb with ⟨rfl, e⟩ | q
     ·rcases hF with ⟨rfl, rfl⟩ | q2
      ·exact .inl ⟨rfl, e⟩
      ·rw [e]
       exact .inr ((q2.keep fun z g1 g2 => by rw [hX z g1 (by omega)]; exact m1.kept z g2).widen (Nat.le_refl _) (by omega))
     ·exact .inr ((q.keep fun z g1 g2 => hX z (by omega) g2).widen (by omega) hl2)
    refine ⟨b, ?_, cb, hnew _ (by simp) (fun z q1 q2 => by (repeat (first | rw [au_ (by omega)] | rw [ay_ (by first | omega | (simp only [ls_, la_, lc_, ln_]; omega))])))⟩
    first | exact aH_ (by simp; omega) | (rw [au_ (by omega)]; exact aH_ (by simp; omega)) | (rw [ay_ (by simp; omega)]; exact aH_ (by omega))
  ·have hc' : ((bu_ y bs[k].Events).2.2 = 0) = False := eq_false hc
   rw [hS, li_ hlt hc] at hk
   simp (disch := (first | omega | (simp only [ls_, la_, lc_, ln_]; first | done | omega))) only [aH_, ay_, aN_, go_sem, Nat.reduceEqDiff, Nat.reduceAdd, Nat.reduceLeDiff, ↓reduceIte, t1, t2, t4, t7, p0, p1, cb', hc', aj_.cells, bM_, Option.map_some, ci_]
   have hM2 : ∀ r : Row, aM_ H (H1 ++ [r]) := fun r => hM1.add _
   refine hk _ _ ?_ rfl (.inr (hC_ ?_))
   ·first | exact (hM2 _).set (by omega) | exact ((hM2 _).set (by omega)).set (by omega) | exact hM2 _
   ·simp; omega
 ·rw [hS, l7_ (by omega)] at hk
  simp (disch := (first | omega | (simp only [ls_, la_, lc_, ln_]; first | done | omega))) only [aH_, go_sem, Nat.reduceEqDiff, ↓reduceIte, t1, t2, t4, t7, o0, o1, ca', hlt, ci_]
  refine hk _ _ (hM.set (by omega)) ca ?_
  rcases hF with q | q
  ·exact .inl q
  ·exact .inr ((q.keep fun z q1 q2 => au_ (by omega)).widen (by omega) (by simp))
def c31 : LC :=
 .seq (.ops [.s 3 (.box 30 (.tmp 0)), .s 5 (.box 30 (.tmp 2)), .s 6 (.mov (.const (.bool false)))]) (.seq (.seq (.ops [.ld 10 1 3, .c1 11 41 10, .nt 12 11, .m 13 12, .g 14 13 false (.mov (.tmp 1)), .g 15 13 false (.call
 58 [.tmp 14]), .g 16 13 false (.un .not (.tmp 15)), .pt 17 13 16, .m 18 17, .g 19 18 false (.load (some 1) (.tmp 5)), .g 20 18 false (.call 41 [.tmp 19]), .g 21 18 false (.un .not (.tmp 20)), .pt 22 18 21]) (.cond (.tmp
 22) (.seq (.ops [.s 6 (.mov (.const (.bool false)))]) .ret) .skip)) (.seq (.ops [.ld 24 1 3, .m 25 1, .c2 26 59 24 25, .m 23 26, .ex 27 23 0, .ex 28 23 1, .ex 29 23 2, .s 7 (.alloc 30 (.agg #[.slice none 0 0])), .st 1 7
 27, .m 8 28, .m 9 29]) (.seq (.ops [.m 30 9, .bk 31 .eql false 30 0, .m 32 31, .g 33 32 true (.load (some 1) (.tmp 7)), .g 34 32 true (.load (some 1) (.tmp 5)), .g 35 32 true (.call 69 [.tmp 33, .tmp 34]), .pf 36 32 35,
 .m 6 36]) .ret)))
def Ab_ : LF := ⟨3, 37, c31, [.tmp 6]⟩
theorem Dy_ : ar_ Tryz.prog Tryz.f31 Ab_ := ah_
theorem hK_ (x : ae_) (bs : List aj_) (y : ae_) (hx : ae_.sz x ≤ 1048576) (hb : aq_ aj_.sz bs ≤ 1048576) (hy : ae_.sz y ≤ 1048576) (h : List Row) : aa_ Tryz.prog 31 [.agg (ae_.cells x), .list 0 2 (bs.map aj_.cells), .agg (ae_.cells y)] h (.val (.bool (eF_ x bs y))) := by
 refine ai_ mixed Tryz.func31 Dy_ rfl rfl ?_ h
 have htx : ∀ H, aa_ Tryz.prog 41 [.agg [.list 0 3 (x.Nodes.map ab_.cells)]] H (.val (.bool (aE_ x))) := fun H => cj_ x hx H
 have hty : ∀ H, aa_ Tryz.prog 41 [.agg [.list 0 3 (y.Nodes.map ab_.cells)]] H (.val (.bool (aE_ y))) := fun H => cj_ y hy H
 have hno : ∀ H, aa_ Tryz.prog 58 [.list 0 2 (bs.map aj_.cells)] H (.val (.bool (b6_ bs))) := fun H => n0_ bs hb H
 simp (disch := (first | omega | (simp only [ls_, la_, lc_, ln_]; first | done | omega))) only [go_sem, Nat.reduceEqDiff, ↓reduceIte, Ab_, c31, ae_.cells]
 refine aa_.call (htx _) ?_
 by_cases q1 : aE_ x = true
 case neg =>
  have q1' : aE_ x = false := by simpa using q1
  simp (disch := (first | omega | (simp only [ls_, la_, lc_, ln_]; first | done | omega))) only [go_sem, Nat.reduceEqDiff, ↓reduceIte, q1']
  exact ad_ (by simp [eF_, cq_, q1'])
 simp (disch := (first | omega | (simp only [ls_, la_, lc_, ln_]; first | done | omega))) only [go_sem, Nat.reduceEqDiff, ↓reduceIte, q1]
 refine aa_.call (hno _) ?_
 by_cases q2 : b6_ bs = true
 case neg =>
  have q2' : b6_ bs = false := by simpa using q2
  simp (disch := (first | omega | (simp only [ls_, la_, lc_, ln_]; first | done | omega))) only [go_sem, Nat.reduceEqDiff, ↓reduceIte, q2']
  exact ad_ (by simp [eF_, cq_, q2'])
 simp (disch := (first | omega | (simp only [ls_, la_, lc_, ln_]; first | done | omega))) only [go_sem, Nat.reduceEqDiff, ↓reduceIte, q2]
 refine aa_.call (hty _) ?_
 by_cases q3 : aE_ y = true
 case neg =>
  have q3' : aE_ y = false := by simpa using q3
  simp (disch := (first | omega | (simp only [ls_, la_, lc_, ln_]; first | done | omega))) only [go_sem, Nat.reduceEqDiff, ↓reduceIte, q3']
  exact ad_ (by simp [eF_, q3'])
 have hR : cq_ x bs = bX_ x bs 0 := by simp [cq_, q1, q2]
 have hz : ae_.sz (bX_ x bs 0).1 ≤ 1048576 := by rw [← hR]; exact nA_ x bs
 simp (disch := (first | omega | (simp only [ls_, la_, lc_, ln_]; first | done | omega))) only [go_sem, Nat.reduceEqDiff, ↓reduceIte, q3]
 refine kU_ x bs q1 q2 hb (fun b H1 m1 cb hb => ?_)
 have l1 := m1.len
 simp only [lc_, ln_] at l1
 have cb' := cb
 simp only [AV.cell, Value.oneCell'] at cb'
 have p0 := m1.at (i := 0) rfl
 have p1 := m1.at (i := 1) rfl
 have hss : ∀ H, aa_ Tryz.prog 69 [.agg (ae_.cells (bX_ x bs 0).1), .agg [.list 0 3 (y.Nodes.map ab_.cells)]] H (.val (.bool (fV_ (bX_ x bs 0).1 y))) := fun H => lp_ _ y hz H
 by_cases hc : (bX_ x bs 0).2.2 = 0
 case neg =>
  have hc' : ((bX_ x bs 0).2.2 = 0) = False := eq_false hc
  simp (disch := (first | omega | (simp only [ls_, la_, lc_, ln_]; first | done | omega))) only [aN_, go_sem, Nat.reduceEqDiff, ↓reduceIte, cb', hc']
  exact ad_ (by simp [eF_, hR, hc])
 simp (disch := (first | omega | (simp only [ls_, la_, lc_, ln_]; first | done | omega))) only [ay_, aN_, go_sem, Nat.reduceEqDiff, ↓reduceIte, p1, cb', hc]
 refine aa_.call (aa_.anyR rfl hss (aX_.cons (uh_ hb fun z q1 q2 => by (repeat (first | rw [au_ (by omega)] | rw [ay_ (by first | omega | (simp only [ls_, la_, lc_, ln_]; omega))]))) (aX_.cons (bp_.same rfl) aX_.nil))) ?_
 simp (disch := (first | omega | (simp only [ls_, la_, lc_, ln_]; first | done | omega))) only [go_sem, Nat.reduceEqDiff, ↓reduceIte]
 exact ad_ (by simp [eF_, hR, hc, q3])
end Go.Proofs.YtfplhbjggecnpaaGreatDoor
