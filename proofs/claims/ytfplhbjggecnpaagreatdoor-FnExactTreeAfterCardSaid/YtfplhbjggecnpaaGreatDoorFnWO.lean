/-
 Contracts of functions of this program, over abstract values. Conditions: as each theorem says.
-/
import Derived.Test.YtfplhbjggecnpaaGreatDoorFnWC
namespace Go.Proofs.YtfplhbjggecnpaaGreatDoor
open List
open Go.AW
set_option linter.unusedVariables false
set_option linter.unusedSimpArgs false
set_option maxRecDepth 4000
theorem pg_ {x : ad_} {c : a5_} (h : c.Kind = 1) : (b0_ x c).2 = ds_ x c.Name c.Subs ∧ (ds_ x c.Name c.Subs = 0 → (b0_ x c).1 = ⟨dJ_ x.Nodes c.Name c.Subs c.Value⟩) := by
 unfold b0_ ds_
 rw [if_pos h]
 split
 ·exact ⟨rfl, fun _ => rfl⟩
 ·exact ⟨rfl, fun q => by cases q⟩
def c95 : LC :=
 .seq (.ops [.s 3 (.box 126 (.tmp 1)), .ki 4 0]) (.seq (.seq (.ops [.fa 5 0 3, .ln 6 5, .bk 7 .eql false 6 1]) (.cond (.tmp 7) (.seq (.ops [.m 8 0, .fa 9 1 3, .ln 10 9, .fa 11 2 3, .ln 12 11, .fa 13 3 3, .ln 14 13, .s 15
 (.call 145 [.tmp 8, .tmp 10, .tmp 12, .tmp 14]), .m 4 15]) .ret) .skip)) (.seq (.ops [.m 16 0, .fa 17 1 3, .ln 18 17, .fa 19 2 3, .ln 20 19, .c3 21 146 16 18 20]) (.seq (.ops [.ki 4 0]) .ret)))
def uo_ : LF := ⟨2, 22, c95, [.tmp 4]⟩
theorem DQ_ : at_ Tryz.prog Tryz.f95 uo_ := ai_
theorem jL_ {L lo : Nat} {H0 H : List Row} {x : ad_} {sa : AV} (B : ec_ L lo H0 x) (mH : aJ_ H0 H) (c : a5_) (hx : aH_ x = true) (hs : ao_ ByteArray.size c.Subs ≤ 1048576) (hsh : sa = .list 0 1 (c.Subs.map am_) ∨ ∃ ls k, sa = .own ls k) (hsa : ∀ H' : List Row, (∀ y, H0.length ≤ y → y < H.length → H'[y]? = H[y]?) → cg_ H' sa (.list 0 1 (c.Subs.map am_))) {K : AV → List Row → Prop}
 (hk : ∀ H' : List Row, H.length ≤ H'.length → (∀ y, y < lo → H'[y]? = H[y]?) → ((b0_ x c).2 = 0 → ec_ L lo H' (b0_ x c).1) → K (.val (.int .i64 (b0_ x c).2)) H') :
 callSem Tryz.prog 95 [.ptr L 1 0 0, .agg [.val (.int .i64 c.Kind), .val (.string c.Name), sa, .val (.string c.Value)]] H K := by
 refine bd_ mixed Tryz.func95 DQ_ (cb_ rfl ?_)
 have hlow := B.low
 have mlen := mH.len
 have csa : sa.cell = true := by rcases hsh with rfl | ⟨_, _, rfl⟩ <;> rfl
 have csa' := csa
 simp only [AV.cell, Value.oneCell'] at csa'
 have hsa' : ∀ r : Row, ∀ H' : List Row, (∀ y, H0.length ≤ y → y < (H ++ [r]).length → H'[y]? = (H ++ [r])[y]?) → cg_ H' sa (.list 0 1 (c.Subs.map am_)) := fun r H' h => hsa H' fun y q1 q2 => by rw [h y q1 (by simp; omega)]; exact aw_ q2
 by_cases hk1 : c.Kind = 1
 ·have hk1' : (c.Kind = 1) = True := eq_true hk1
  obtain ⟨e1, e2⟩ := pg_ (x := x) hk1
  rw [e1] at hk
  simp (disch := (first | omega | (simp only [ls_, la_, lc_, ln_]; first | done | omega))) only [aQ_, go_sem, Nat.reduceEqDiff, Nat.reduceAdd, reduceCtorEq, ↓reduceIte, uo_, c95, csa', hk1']
  refine lu_ B (mH.add _) c.Name c.Subs c.Value hx hs (hsa' _) (fun H' k1 k2 k3 => ?_)
  simp (disch := (first | omega | (simp only [ls_, la_, lc_, ln_]; first | done | omega))) only [go_sem, ↓reduceIte]
  exact hk H' (by simp at k1; omega) (fun y q => by rw [k2 y q]; exact aw_ (by omega)) (fun q => by rw [e2 q]; exact k3 q)
 ·have hk1' : (c.Kind = 1) = False := eq_false hk1
  have e1 : b0_ x c = (⟨cT_ x.Nodes c.Name c.Subs⟩, 0) := by rw [b0_, if_neg hk1]
  rw [e1] at hk
  simp (disch := (first | omega | (simp only [ls_, la_, lc_, ln_]; first | done | omega))) only [aQ_, go_sem, Nat.reduceEqDiff, Nat.reduceAdd, reduceCtorEq, ↓reduceIte, uo_, c95, csa', hk1']
  obtain ⟨l, m, ts, b0, d⟩ := B
  have hl0 := b0.at'.lt
  have hr : ∀ r : Row, (H ++ [r]).length = H.length + 1 := fun r => by simp
  have b := fun r : Row => b0.more (mH.add [r])
  obtain ⟨a, o, hS⟩ := (b _).box
  have hlo := (b0.at'.lows l mem_cons_self).1
  refine kD_ (lo := lo) (l := L) (N := 1) (k := 0) (off := 0) (pre := []) (post := []) (es := [[a]]) (a := a) c.Name c.Subs hsh (fun H' hH => hsa' _ H' fun y q1 q2 => hH y q2 (by omega)) (ad_.sz_Nodes (dd_ hx)) o rfl rfl rfl hS (b _).at' b0.out d (fun H' m' us' k1 k2 k3 k4 k5 k6 k7 => ?_)
  simp (disch := (first | omega | (simp only [ls_, la_, lc_, ln_]; first | done | omega))) only [go_sem, ↓reduceIte]
  exact hk H' (by simp at k1; omega) (fun y q => by rw [k2 y (by simp; omega) (by omega) (by omega)]; exact aw_ (by omega)) (fun _ => ⟨l, m', us', ⟨⟨_, k7, .inl rfl⟩, k3, fun q => b0.out (k5 L q), b0.lt⟩, k6⟩)
def c50 : LC :=
 .seq (.ops [.s 3 (.box 79 (.tmp 1)), .ki 4 0]) (.seq (.seq (.ops [.ld 5 5 3, .c1 6 94 5]) (.cond (.tmp 6) (.seq (.ops [.m 7 0, .ld 8 5 3, .c1 9 96 8, .c2 10 95 7 9, .m 4 10]) .ret) .skip)) (.seq (.seq (.gops [.m 11 0,
 .nc 12 11, .ld 13 1 12, .ld 14 5 3, .ld 16 5 3] [(.c2 15 98 13 14, [.ld 16 5 3]), (.c2 17 97 15 16, []), (.nt 18 17, [])]) (.cond (.tmp 18) (.seq (.ops [.ki 4 5]) .ret) .skip)) (.seq (.ops [.ki 4 0]) .ret)))
def z1_ : LF := ⟨2, 19, c50, [.tmp 4]⟩
theorem DT_ : at_ Tryz.prog Tryz.f50 z1_ := rp_
theorem kl_ {L lo : Nat} {H : List Row} {x : ad_} (B : ec_ L lo H x) (e : ab_) (hx : aH_ x = true) (hn : bx_ e = true) (hz : ab_.sz e ≤ 1048576) {K : AV → List Row → Prop}
 (hk : ∀ H' : List Row, H.length ≤ H'.length → (∀ y, y < lo → H'[y]? = H[y]?) → ((bK_ x e).2 = 0 → ec_ L lo H' (bK_ x e).1) → K (.val (.int .i64 (bK_ x e).2)) H') :
 callSem Tryz.prog 50 [.ptr L 1 0 0, .agg (ab_.cells e)] H K := by
 refine bd_ mixed Tryz.func50 DT_ (cb_ rfl ?_)
 have hlow := B.low
 have htu : ∀ H, aa_ Tryz.prog 94 [.agg [.val (.int .i64 e.Kind), .val (.string e.Name), .list 0 1 (e.Subs.map am_), .val (.string e.Value), .val (.int .i64 e.N)]] H (.val (.bool (cd_ e))) := fun H => nc_ e H
 simp (disch := (first | omega | (simp only [ls_, la_, lc_, ln_]; first | done | omega))) only [aQ_, go_sem, Nat.reduceEqDiff, Nat.reduceAdd, ↓reduceIte, z1_, c50, ab_.cells]
 refine aa_.call (htu _) ?_
 cases ht : cd_ e
 case true =>
  have hA : bK_ x e = b0_ x (dX_ e) := by rw [bK_, if_pos ht]
  rw [hA] at hk
  have hch : aP_ Tryz.prog 96 [.agg [.val (.int .i64 e.Kind), .val (.string e.Name), .list 0 1 (e.Subs.map am_), .val (.string e.Value), .val (.int .i64 e.N)]] (.agg (a5_.cells (dX_ e))) (fun a => ∃ l, a = .agg [.val (.int .i64 (dX_ e).Kind), .val (.string e.Name), .own l e.Subs.length, .val (.string e.Value)]) := kk_ e hz
  simp (disch := (first | omega | (simp only [ls_, la_, lc_, ln_]; first | done | omega))) only [aQ_, go_sem, Nat.reduceEqDiff, Nat.reduceAdd, reduceCtorEq, ↓reduceIte]
  refine bJ_ hch (fun av H1 m1 F1 q1 => ?_)
  obtain ⟨l, rfl⟩ := q1
  have l1 := m1.len
  simp only [la_, lc_, ln_] at l1
  have F2 := F1.tree.unagg.rest.rest.head
  simp (disch := (first | omega | (simp only [ls_, la_, lc_, ln_]; first | done | omega))) only [go_sem, Nat.reduceEqDiff, ↓reduceIte]
  refine jL_ B ((aJ_.app H _).trans m1) (dX_ e) hx (ab_.sz_Subs hz) (.inr ⟨l, _, rfl⟩) (fun H' h => (F2.keep fun y q1 q2 => h y (by simp at q1; omega) q2).arg) (fun H' k1 k2 k3 => ?_)
  simp (disch := (first | omega | (simp only [ls_, la_, lc_, ln_]; first | done | omega))) only [go_sem, ↓reduceIte]
  refine hk H' (by omega) (fun y q => ?_) k3
  rw [k2 y q, m1.kept y (by simp; omega)]; exact aw_ (by omega)
 case false =>
  obtain ⟨a, o, ca, hF⟩ := B.arg
  have hr := qi_ hn ht
  have hA : bK_ x e = if bE_ (bn_ x e) e = true then (x, 0) else (⟨[]⟩, 5) := by rw [bK_, if_neg (by rw [ht]; simp)]
  have hag : aP_ Tryz.prog 98 [.agg (ad_.cells x), .agg [.val (.int .i64 e.Kind), .val (.string e.Name), .list 0 1 (e.Subs.map am_), .val (.string e.Value), .val (.int .i64 e.N)]] (.agg (ab_.cells (bn_ x e))) (gK_ e) := jc_ x e (dd_ hx) hz hx hn hr
  have hse : ∀ H, aa_ Tryz.prog 97 [.agg (ab_.cells (bn_ x e)), .agg [.val (.int .i64 e.Kind), .val (.string e.Name), .list 0 1 (e.Subs.map am_), .val (.string e.Value), .val (.int .i64 e.N)]] H (.val (.bool (bE_ (bn_ x e) e))) := fun H => lw_ (bn_ x e) e (lL_ hx hn hz) H
  simp (disch := (first | omega | (simp only [ls_, la_, lc_, ln_]; first | done | omega))) only [aw_, aQ_, go_sem, Nat.reduceEqDiff, Nat.reduceAdd, reduceCtorEq, ↓reduceIte, o]
  refine d0_ hag (a3_.cons (hF.keep fun y _ q => aw_ q).arg.any (a3_.cons (bL_.same rfl) a3_.nil)) (fun av H1 m1 F1 q1 => ?_)
  obtain ⟨l, v, k, rfl⟩ := q1
  have l1 := m1.len
  simp only [la_, lc_, ln_] at l1
  have o1 := m1.at (lj_ H _)
  have B1 := B.more ((aJ_.app H _).trans m1)
  simp (disch := (first | omega | (simp only [ls_, la_, lc_, ln_]; first | done | omega))) only [go_sem, Nat.reduceEqDiff, Nat.reduceAdd, ↓reduceIte, o1]
  refine aa_.call (aa_.anyR rfl hse (a3_.cons F1.tree.arg.any (a3_.cons (bL_.same rfl) a3_.nil))) ?_
  cases hq : bE_ (bn_ x e) e
  ·rw [hA, if_neg (by rw [hq]; simp)] at hk
   simp (disch := (first | omega | (simp only [ls_, la_, lc_, ln_]; first | done | omega))) only [go_sem, ↓reduceIte]
   exact hk H1 (by omega) (fun y q => by rw [m1.kept y (by simp; omega)]; exact aw_ (by omega)) (fun q => by cases q)
  ·rw [hA, if_pos hq] at hk
   simp (disch := (first | omega | (simp only [ls_, la_, lc_, ln_]; first | done | omega))) only [go_sem, ↓reduceIte]
   exact hk H1 (by omega) (fun y q => by rw [m1.kept y (by simp; omega)]; exact aw_ (by omega)) (fun _ => B1)
theorem b7_ {t : Nat → AV} {h : List Row} (a s u : Nat) (n : Option Nat) (K : AV → List Row → Prop) : cH_ [.cell a n, .tmp s, .tmp u] K .ret t h = match au_ t h (.load n (.tmp a)) with | some av => K (.tup [av, t s, t u]) h | none => False := by
 simp only [cH_, dU_, mapM_cons, mapM_nil]
 cases au_ t h (.load n (.tmp a)) <;> simp [c5_]
abbrev i8_ (p : ad_ × Int × Int) : AV := .tup [.agg (ad_.cells p.1), .val (.int .i64 p.2.1), .val (.int .i64 p.2.2)]
def po_ (a : AV) : Prop := ∃ b, b.cell = true ∧ ∃ v v2, a = .tup [.agg [b], .val (.int .i64 v), .val (.int .i64 v2)]
abbrev e6_ (p : ad_ × Int) : AV := .tup [.agg (ad_.cells p.1), .val (.int .i64 p.2)]
def h5_ (a : AV) : Prop := ∃ b, b.cell = true ∧ ∃ v, a = .tup [.agg [b], .val (.int .i64 v)]
section
variable {lo hi : Nat} {H : List Row} {b : AV} {x : ad_}
theorem gG_ (hF : aA_ lo hi H (.agg [b]) (.agg (ad_.cells x))) (h : lo ≤ hi) (v v2 : Int) : aA_ lo hi H (.tup [.agg [b], .val (.int .i64 v), .val (.int .i64 v2)]) (i8_ (x, v, v2)) :=
 aA_.tup (ap_.cons hF (ap_.val _ (ap_.val _ (ap_.nil _ _ _))) ⟨h, Nat.le_refl _⟩)
theorem hJ_ (hF : aA_ lo hi H (.agg [b]) (.agg (ad_.cells x))) (h : lo ≤ hi) (v : Int) : aA_ lo hi H (.tup [.agg [b], .val (.int .i64 v)]) (e6_ (x, v)) :=
 aA_.tup (ap_.cons hF (ap_.val _ (ap_.nil _ _ _)) ⟨h, Nat.le_refl _⟩)
theorem gV_ (h : lo ≤ hi) : aA_ lo hi H (.agg [.val (.slice none 0 0)]) (.agg (ad_.cells ⟨[]⟩)) := (aA_.agg (ap_.cons (aA_.mknil lo lo H 3) (ap_.nil _ _ _) ⟨Nat.le_refl _, Nat.le_refl _⟩)).widen (Nat.le_refl _) h
end
def c13 : LC :=
 .seq (.ops [.s 2 (.box 30 (.tmp 0)), .s 4 (.alloc 30 (.agg #[.slice none 0 0])), .ki 5 0, .ki 6 0]) (.seq (.seq (.ops [.ld 11 1 2, .c1 12 47 11, .nt 13 12, .m 14 13, .g 15 14 false (.mov (.tmp 1)), .g 16 14 false (.call
 48 [.tmp 15]), .g 17 14 false (.un .not (.tmp 16)), .pt 18 14 17]) (.cond (.tmp 18) (.seq (.ops [.s 19 (.build (.agg #[.slice none 0 0]) [(0, 1)] []), .st 1 4 19, .ki 5 0, .ki 6 1]) .ret) .skip)) (.seq (.ops [.ld 20 1 2,
 .c1 21 49 20, .s 7 (.alloc 30 (.agg #[.slice none 0 0])), .st 1 7 21]) (.seq (.seq (.ops [.m 22 1, .ll 23 22, .ki 24 0]) (.block 0 (.loop (.seq (.ops [.bb 25 .lss false 24 23]) (.seq (.cond (.tmp 25) .skip (.exit 0))
 (.seq (.block 1 (.seq (.ops [.m 26 24, .ia 27 5 22 24, .ld 28 5 27, .s 9 (.alloc 79 (.agg #[.int .i64 0, .string ⟨#[]⟩, .slice none 0 0, .string ⟨#[]⟩, .int .i64 0])), .m 8 26, .st 5 9 28]) (.seq (.ops [.ld 29 5 9, .c2
 30 50 7 29, .m 10 30]) (.seq (.ops [.m 31 10, .bk 32 .neq false 31 0]) (.cond (.tmp 32) (.seq (.ops [.s 33 (.build (.agg #[.slice none 0 0]) [(0, 1)] []), .m 34 8, .m 35 10, .st 1 4 33, .m 5 34, .m 6 35]) .ret)
 .skip))))) (.ops [.bk 36 .add false 24 1, .m 24 36]))))))) (.seq (.ops [.ld 37 1 7, .st 1 4 37, .ki 5 0, .ki 6 0]) .ret))))
def C6_ : LF := ⟨2, 38, c13, [.cell 4 (some 1), .tmp 5, .tmp 6]⟩
theorem Ev_ : at_ Tryz.prog Tryz.f13 C6_ := ai_
theorem lq_ (x : ad_) (es : List ab_) (hx : ad_.sz x ≤ 1048576) (he : ao_ ab_.sz es ≤ 1048576) : aP_ Tryz.prog 13 [.agg (ad_.cells x), .list 0 5 (es.map ab_.cells)] (i8_ (bI_ x es)) po_ := by
 refine bT_ mixed Tryz.func13 Ev_ rfl (fun h0 => ?_)
 have htr : ∀ H, aa_ Tryz.prog 47 [.agg [.list 0 3 (x.Nodes.map ac_.cells)]] H (.val (.bool (aH_ x))) := fun H => gN_ x hx H
 have hno : ∀ H, aa_ Tryz.prog 48 [.list 0 5 (es.map ab_.cells)] H (.val (.bool (c8_ es))) := fun H => gl_ es he H
 have hcp : gU_ Tryz.prog 49 [.agg [.list 0 3 (x.Nodes.map ac_.cells)]] (.agg (ad_.cells x)) _ := hx_ x hx
 have hl := ax_ he
 simp (disch := (first | omega | (simp only [ls_, la_, lc_, ln_]; first | done | omega))) only [aQ_, go_sem, Nat.reduceEqDiff, ↓reduceIte, C6_, c13, ad_.cells]
 refine aa_.call (htr _) ?_
 by_cases q1 : aH_ x = true
 case neg =>
  have q1' : aH_ x = false := by simpa using q1
  have hR : bI_ x es = (⟨[]⟩, 0, 1) := by simp [bI_, q1']
  simp (disch := (first | omega | (simp only [ls_, la_, lc_, ln_]; first | done | omega))) only [cB_, go_sem, Nat.reduceEqDiff, ↓reduceIte, q1', bH_, Option.map_some, b7_]
  rw [hR]
  exact ⟨⟨by first | exact aJ_.app _ _ | exact (aJ_.app _ _).set (by omega), gG_ (gV_ (by simp)) (by simp) _ _⟩, _, rfl, _, _, rfl⟩
 simp (disch := (first | omega | (simp only [ls_, la_, lc_, ln_]; first | done | omega))) only [go_sem, Nat.reduceEqDiff, ↓reduceIte, q1]
 refine aa_.call (hno _) ?_
 by_cases q2 : c8_ es = true
 case neg =>
  have q2' : c8_ es = false := by simpa using q2
  have hR : bI_ x es = (⟨[]⟩, 0, 1) := by simp [bI_, q2']
  simp (disch := (first | omega | (simp only [ls_, la_, lc_, ln_]; first | done | omega))) only [cB_, go_sem, Nat.reduceEqDiff, ↓reduceIte, q2', bH_, Option.map_some, b7_]
  rw [hR]
  exact ⟨⟨by first | exact aJ_.app _ _ | exact (aJ_.app _ _).set (by omega), gG_ (gV_ (by simp)) (by simp) _ _⟩, _, rfl, _, _, rfl⟩
 have hR : bI_ x es = cm_ x es 0 := by simp [bI_, q1, q2]
 rw [hR]
 simp (disch := (first | omega | (simp only [ls_, la_, lc_, ln_]; first | done | omega))) only [aQ_, go_sem, Nat.reduceEqDiff, ↓reduceIte, q2]
 refine hcp _ _ (fun av H1 m1 F1 q3 => ?_)
 obtain ⟨l, rfl, es1, hrow⟩ := q3
 have l1 := m1.len
 have p1 := m1.at (i := h0.length + 1) (by rw [b8_]; rfl)
 simp only [la_, lc_, ln_] at l1
 have m0 : aJ_ h0 H1 := (aJ_.app h0 _).trans m1
 have hrl := (List.getElem?_eq_some_iff.1 hrow).1
 have B0 : ec_ H1.length (h0.length + 2) (H1 ++ [⟨30, 1, [[.own l x.Nodes.length]]⟩]) x := ec_.of (hi := H1.length) (aQ_ rfl) (by omega) (Nat.le_refl _) ((F1.tree.keep fun y _ q => aw_ q).widen (by simp) (Nat.le_refl _)) ((aw_ hrl).trans hrow)
 simp (disch := (first | omega | (simp only [ls_, la_, lc_, ln_]; first | done | omega))) only [aQ_, go_sem, Nat.reduceEqDiff, ↓reduceIte]
 refine aL_ (fun n t h => ∃ (k : Nat) (y : ad_), t 4 = .ptr (h0.length + 1) 1 0 0 ∧ t 7 = .ptr H1.length 1 0 0 ∧ t 22 = .list 0 5 (es.map ab_.cells) ∧ t 23 = .val (.int .i64 es.length) ∧ t 24 = .val (.int .i64 k) ∧ aJ_ h0 h ∧ h[h0.length + 1]? = some ⟨30, 1, [[.val (.slice none 0 0)]]⟩ ∧
  ec_ H1.length (h0.length + 2) h y ∧ aH_ y = true ∧ cm_ x es 0 = cm_ y (es.drop k) k ∧ n = es.length - k ∧ k ≤ es.length) es.length ?_ ?_
 ·refine ⟨0, x, rfl, rfl, rfl, rfl, rfl, ?_, ?_, ?_, q1, rfl, rfl, Nat.zero_le _⟩
  ·first | exact m0.add _ | exact (m0.add _).set (by omega)
  ·(repeat (first | rw [ar_ (by omega)] | rw [aw_ (by first | omega | (simp only [ls_, la_, lc_, ln_]; omega))])); exact p1
  ·first | exact B0 | (refine cast ?_ B0; congr 1; simp)
 rintro J hJ n t h ⟨k, y, t4, t7, t22, t23, t24, hM, o1, B, hy, hS, rfl, hk⟩
 have ml := hM.len
 have hlow := B.low
 have hol := (List.getElem?_eq_some_iff.1 o1).1
 by_cases hlt : k < es.length
 ·have hnk := (kz_ q2).2 es[k] (getElem_mem hlt)
  have hzk := b6_ he (getElem_mem hlt)
  simp (disch := (first | omega | (simp only [ls_, la_, lc_, ln_]; first | done | omega))) only [aQ_, go_sem, Nat.reduceEqDiff, Nat.reduceAdd, ↓reduceIte, t7, t22, t23, t24, hlt, ab_.cells]
  refine kl_ (B.keep (fun y _ q => by (repeat (first | rw [ar_ (by omega)] | rw [aw_ (by first | omega | (simp only [ls_, la_, lc_, ln_]; omega))]))) (by simp)) es[k] hy hnk hzk (fun H2 k1 k2 k3 => ?_)
  simp only [la_, lc_, ln_] at k1
  have o2 : H2[h0.length + 1]? = some ⟨30, 1, [[.val (.slice none 0 0)]]⟩ := by
   rw [k2 _ (by omega)]; (repeat (first | rw [ar_ (by omega)] | rw [aw_ (by first | omega | (simp only [ls_, la_, lc_, ln_]; omega))])); exact o1
  have hM2 : aJ_ h0 H2 := ⟨by omega, fun z q => by
   rw [k2 z (by omega)]; (repeat (first | rw [ar_ (by omega)] | rw [aw_ (by first | omega | (simp only [ls_, la_, lc_, ln_]; omega))])); exact hM.kept z q⟩
  by_cases hc : (bK_ y es[k]).2 = 0
  ·simp (disch := (first | omega | (simp only [ls_, la_, lc_, ln_]; first | done | omega))) only [go_sem, Nat.reduceEqDiff, ↓reduceIte, t24, hc]
   exact ⟨es.length - (k + 1), by omega, hJ _ _ _ ⟨k + 1, (bK_ y es[k]).1, by simp [upd, t4], by simp [upd, t7], by simp [upd, t22], by simp [upd, t23], by simp [upd], hM2, o2, k3 hc, kR_ hy hnk, by rw [hS, h8_ hlt hc], rfl, by omega⟩⟩
  ·have hc' : ((bK_ y es[k]).2 = 0) = False := eq_false hc
   simp (disch := (first | omega | (simp only [ls_, la_, lc_, ln_]; first | done | omega))) only [aD_, go_sem, Nat.reduceEqDiff, ↓reduceIte, t4, o2, hc', bH_, Option.map_some, b7_]
   rw [hS, h3_ hlt hc]
   exact ⟨⟨by first | exact hM2 | exact hM2.set (by omega), gG_ (gV_ (by simp; omega)) (by simp; omega) _ _⟩, _, rfl, _, _, rfl⟩
 ·obtain ⟨a, o, ca, hF⟩ := B.arg
  have ca' := ca
  simp only [AV.cell, Value.oneCell'] at ca'
  simp (disch := (first | omega | (simp only [ls_, la_, lc_, ln_]; first | done | omega))) only [aD_, go_sem, Nat.reduceEqDiff, ↓reduceIte, t4, t7, t23, t24, o, o1, ca', hlt, b7_]
  rw [hS, ly_ (by omega)]
  exact ⟨⟨hM.set (by omega), gG_ ((hF.keep fun z q _ => ar_ (by omega)).widen (by omega) (by simp)) (by simp; omega) _ _⟩, _, ca, _, _, rfl⟩
def B7_ : LC :=
 .seq (.ops [.s 1 (.box 126 (.tmp 0)), .s 2 (.mov (.const (.bool false)))]) (.seq (.seq (.ops [.fa 3 1 1, .ln 4 3, .fa 5 2 1, .ln 6 5, .c2 7 118 4 6, .nt 8 7]) (.cond (.tmp 8) (.seq (.ops [.s 2 (.mov (.const (.bool
 false)))]) .ret) .skip)) (.seq (.ops [.fa 9 0 1, .ln 10 9, .bk 11 .eql false 10 1, .m 12 11, .g 13 12 true (.fieldAddr 3 (.tmp 1)), .g 14 12 true (.load none (.tmp 13)), .g 15 12 true (.lenStr (.tmp 14)), .g 16 12 true
 (.bin .leq false (.tmp 15) (.const (.int .i64 64))), .pf 17 12 16, .m 18 17, .g 19 18 false (.fieldAddr 0 (.tmp 1)), .g 20 18 false (.load none (.tmp 19)), .g 21 18 false (.bin .eql false (.tmp 20) (.const (.int .i64
 2))), .g 22 18 false (.mov (.tmp 21)), .g 23 22 true (.fieldAddr 3 (.tmp 1)), .g 24 22 true (.load none (.tmp 23)), .g 25 22 true (.bin .eql false (.tmp 24) (.const (.string ⟨#[]⟩))), .g 26 18 false (.pick (.tmp 22)
 (.tmp 25) (.const (.bool false))), .pt 27 18 26, .m 2 27]) .ret))
def wZ_ : LF := ⟨1, 28, B7_, [.tmp 2]⟩
theorem AE_ : at_ Tryz.prog Tryz.f170 wZ_ := ai_
theorem l0_ (x : a5_) (hx : a5_.sz x ≤ 1048576) (h : List Row) : aa_ Tryz.prog 170 [.agg (a5_.cells x)] h (.val (.bool (cZ_ x))) := by
 refine aj_ mixed Tryz.func170 AE_ rfl rfl ?_ h
 have h1 := a5_.sz_Name hx
 have h2 := ax_ (a5_.sz_Subs hx)
 simp (disch := omega) only [wZ_, B7_, a5_.cells, go_sem, Nat.reduceEqDiff, Nat.reduceAdd, ↓reduceIte]
 repeat' (first
  | exact af_ _ _
  | (refine ae_ ?_; simp only [cZ_, *, Bool.true_and, Bool.and_false, Bool.false_and, Bool.true_or, Bool.false_or, decide_true, decide_false, Bool.and_self, Bool.or_self]; done)
  | (refine ae_ ?_; simp [cZ_, *]; done)
  | simp (disch := omega) only [go_sem, Nat.reduceEqDiff, ↓reduceIte]
  | (refine aa_.call (cv_ _ _ h1 h2 _) ?_)
  | (refine aa_.q (cv_ _ _ h1 h2 _) ?_)
  | ((first | (apply aS_; assumption) | (apply aT_; assumption) | (apply a8_; assumption) | (apply a9_; assumption)); intro hb; try simp only [hb])
  | ((first | (apply aF_; assumption) | (apply aE_; assumption) | (apply aN_; assumption) | (apply aO_; assumption)); intro hb; try simp only [hb])
  | ((first | apply az_ | apply aC_ | apply ak_ | apply an_) <;> intro hb <;> (try simp only [hb]) <;> (first | have hp := aV_ hb | have hp := aU_ hb | have hp := aW_ hb | have hp := aX_ hb | skip)))
def cn_ (xs : List ah_) : Bool := decide ((xs.length : Int) ≤ 400) && xs.all cN_
def BC_ : LC :=
 .seq (.ops [.s 1 (.box 92 (.tmp 0)), .s 2 (.mov (.const (.bool false)))]) (.seq (.ops [.ld 3 2 1, .c1 4 105 3, .nt 5 4, .m 2 5]) .ret)
def x3_ : LF := ⟨1, 6, BC_, [.tmp 2]⟩
theorem A9_ : at_ Tryz.prog Tryz.f104 x3_ := ai_
theorem gh_ (x : ah_) (hx : ah_.sz x ≤ 1048576) (h : List Row) : aa_ Tryz.prog 104 [.agg (ah_.cells x)] h (.val (.bool (!cN_ x))) := by
 refine aj_ mixed Tryz.func104 A9_ rfl rfl ?_ h
 simp (disch := omega) only [x3_, BC_, ah_.cells, go_sem, Nat.reduceEqDiff, Nat.reduceAdd, ↓reduceIte]
 repeat' (first
  | exact af_ _ _
  | simp (disch := omega) only [go_sem, ↓reduceIte]
  | (refine aa_.call (iw_ x hx _) ?_)
  | (refine aa_.q (iw_ x hx _) ?_)
  | ((first | (apply aF_; assumption) | (apply aE_; assumption) | (apply aN_; assumption) | (apply aO_; assumption)); intro hb; try simp only [hb])
  | ((first | apply ak_ | apply an_) <;> intro hb <;> (try simp only [hb]) <;> (first | have hp := aV_ hb | have hp := aU_ hb | have hp := aW_ hb | have hp := aX_ hb | skip)))
def zq_ : LC :=
 .seq (.ops [.ki 4 0]) (.seq (.seq (.ops [.m 6 0, .ll 7 6, .ki 8 0]) (.block 0 (.loop (.seq (.ops [.bb 9 .lss false 8 7]) (.seq (.cond (.tmp 9) .skip (.exit 0)) (.seq (.block 1 (.seq (.ops [.m 10 8, .m 5 10]) (.seq (.ops
 [.m 11 1, .m 12 0, .m 13 5, .ia 14 2 12 13, .ld 15 2 14, .s 16 (.callv (.tmp 11) [.tmp 15])]) (.cond (.tmp 16) (.seq (.ops [.m 17 5, .m 4 17]) .ret) .skip)))) (.ops [.bk 18 .add false 8 1, .m 8 18]))))))) (.seq (.ops [.s
 4 (.mov (.const (.int .i64 (-1))))]) .ret))
def wK_ : LF := ⟨2, 19, zq_, [.tmp 4]⟩
theorem C4_ : at_ Tryz.prog Tryz.f154 wK_ := ai_
theorem gw_ (xs : List ah_) (p : ah_ → Bool) (g : Nat) (hx : xs.length ≤ 1048576) (hc : co_ Tryz.prog g = true) (hp : ∀ x ∈ xs, ∀ h, aa_ Tryz.prog g [.agg (ah_.cells x)] h (.val (.bool (p x)))) (h : List Row) :
 aa_ Tryz.prog 154 [.list 0 2 (xs.map ah_.cells), .fn g [] []] h (.val (.int .i64 (b2_ p xs 0))) := by
 refine aj_ mixed Tryz.func154 C4_ rfl rfl ?_ h
 simp (disch := omega) only [wK_, zq_, go_sem, reduceCtorEq, Int.reduceNeg, ↓reduceIte]
 refine aL_ (fun n t h => ∃ k : Nat, t 0 = .list 0 2 (xs.map ah_.cells) ∧ t 1 = .fn g [] [] ∧ t 6 = .list 0 2 (xs.map ah_.cells) ∧ t 7 = .val (.int .i64 xs.length) ∧ t 8 = .val (.int .i64 k) ∧ n = xs.length - k ∧ k ≤ xs.length ∧ (b2_ p xs 0 = b2_ p (xs.drop k) k)) (xs.length) ?_ ?_
 ·exact ⟨0, rfl, rfl, rfl, rfl, rfl, rfl, Nat.zero_le _, rfl⟩
 ·rintro J hJ n t h ⟨k, t0, t1, t6, t7, k8, rfl, hk, hS⟩
  by_cases hlt : k < xs.length
  ·skip
   rw [gq_ p xs k hlt] at hS
   simp (disch := omega) only [t0, t1, t7, k8, hlt, hc, ah_.cells, go_sem, Nat.reduceEqDiff, Nat.reduceAdd, reduceCtorEq, Int.reduceNeg, ↓reduceIte]
   repeat' (first
    | exact af_ _ _
    | exact ⟨xs.length - (k + 1), by omega, hJ _ _ _ ⟨k + 1, by simp [upd, t0], by simp [upd, t1], by simp [upd, t6], by simp [upd, t7], by simp [upd], rfl, by omega, by rw [hS]; simp [*]⟩⟩
    | (refine aG_ ?_; rw [hS]; simp [*]; done)
    | (refine aG_ ?_; rw [hS, eg_ _ _ _ (by omega)])
    | simp (disch := omega) only [k8, go_sem, Nat.reduceEqDiff, Int.reduceNeg, ↓reduceIte]
    | (refine aa_.call (hp xs[k] (getElem_mem hlt) _) ?_)
    | (refine aa_.q (hp xs[k] (getElem_mem hlt) _) ?_)
    | ((first | (apply aF_; assumption) | (apply aE_; assumption) | (apply aN_; assumption) | (apply aO_; assumption)); intro hb; try simp only [hb])
    | ((first | apply ak_ | apply an_) <;> intro hb <;> (try simp only [hb]) <;> (first | have hp := aV_ hb | have hp := aU_ hb | have hp := aW_ hb | have hp := aX_ hb | skip)))
  ·skip
   simp (disch := omega) only [t7, k8, hlt, go_sem, Int.reduceNeg, ↓reduceIte]
   repeat' (first
    | exact af_ _ _
    | (refine aG_ ?_; rw [hS]; simp [*]; done)
    | (refine aG_ ?_; rw [hS, eg_ _ _ _ (by omega)])
    | simp (disch := omega) only [t0, t1, t6, t7, k8, go_sem, Nat.reduceEqDiff, Nat.reduceAdd, Nat.reduceLeDiff, reduceCtorEq, Int.reduceLT, Int.reduceLE, Int.reduceNeg, Int.reduceSub, Int.reduceAdd, Int.reduceToNat, ↓reduceIte]
    | (refine aa_.call (hp xs[k] (getElem_mem hlt) _) ?_)
    | (refine aa_.q (hp xs[k] (getElem_mem hlt) _) ?_)
    | ((first | (apply aF_; assumption) | (apply aE_; assumption) | (apply aN_; assumption) | (apply aO_; assumption)); intro hb; try simp only [hb])
    | ((first | apply ak_ | apply an_) <;> intro hb <;> (try simp only [hb]) <;> (first | have hp := aV_ hb | have hp := aU_ hb | have hp := aW_ hb | have hp := aX_ hb | skip)))
def CB_ : LC :=
 .seq (.ops [.s 4 (.mov (.const (.bool false)))]) (.seq (.ops [.m 5 0, .m 6 1, .c2 7 154 5 6, .bk 8 .geq false 7 0, .m 4 8]) .ret)
def wy_ : LF := ⟨2, 9, CB_, [.tmp 4]⟩
theorem Bf_ : at_ Tryz.prog Tryz.f103 wy_ := ai_
theorem dx_ (xs : List ah_) (p : ah_ → Bool) (g : Nat) (hx : xs.length ≤ 1048576) (hc : co_ Tryz.prog g = true) (hp : ∀ x ∈ xs, ∀ h, aa_ Tryz.prog g [.agg (ah_.cells x)] h (.val (.bool (p x)))) (h : List Row) :
 aa_ Tryz.prog 103 [.list 0 2 (xs.map ah_.cells), .fn g [] []] h (.val (.bool (xs.any p))) := by
 refine aj_ mixed Tryz.func103 Bf_ rfl rfl ?_ h
 simp (disch := omega) only [wy_, CB_, go_sem, Nat.reduceEqDiff, reduceCtorEq, ↓reduceIte]
 refine aa_.call (gw_ xs p g hx hc hp _) ?_
 simp (disch := omega) only [go_sem, ↓reduceIte]
 exact ae_ (iP_ p xs)
def c61 : LC :=
 .seq (.ops [.s 2 (.mov (.const (.bool false)))]) (.seq (.ops [.m 3 0, .ll 4 3, .bk 5 .leq false 4 400, .m 6 5, .g 7 6 true (.mov (.tmp 0)), .g 8 6 true (.call 103 [.tmp 7, .func 104]), .g 9 6 true (.un .not (.tmp 8)),
 .pf 10 6 9, .m 2 10]) .ret)
def BW_ : LF := ⟨1, 11, c61, [.tmp 2]⟩
theorem D5_ : at_ Tryz.prog Tryz.f61 BW_ := ai_
theorem lv_ (xs : List ah_) (hs : ao_ ah_.sz xs ≤ 1048576) (h : List Row) : aa_ Tryz.prog 61 [.list 0 2 (xs.map ah_.cells)] h (.val (.bool (cn_ xs))) := by
 refine aj_ mixed Tryz.func61 D5_ rfl rfl ?_ h
 simp (disch := omega) only [BW_, c61, go_sem, reduceCtorEq, ↓reduceIte]
 repeat' (first
  | exact af_ _ _
  | (refine ae_ ?_; simp only [nz_, cn_, *, Bool.true_and, Bool.false_and, decide_true, decide_false]; done)
  | simp (disch := omega) only [go_sem, Nat.reduceEqDiff, reduceCtorEq, ↓reduceIte]
  | (refine aa_.call (dx_ _ (fun s => !cN_ s) 104 (ax_ hs) (by kernel_rfl) (fun x hx h => gh_ x (by have := bD_ (f := ah_.sz) hx; omega) h) _) ?_)
  | (refine aa_.q (dx_ _ (fun s => !cN_ s) 104 (ax_ hs) (by kernel_rfl) (fun x hx h => gh_ x (by have := bD_ (f := ah_.sz) hx; omega) h) _) ?_)
  | ((first | (apply aS_; assumption) | (apply aT_; assumption) | (apply a8_; assumption) | (apply a9_; assumption)); intro hb; try simp only [hb])
  | ((first | (apply aF_; assumption) | (apply aE_; assumption) | (apply aN_; assumption) | (apply aO_; assumption)); intro hb; try simp only [hb])
  | ((first | apply az_ | apply aC_ | apply ak_ | apply an_) <;> intro hb <;> (try simp only [hb]) <;> (first | have hp := aV_ hb | have hp := aU_ hb | have hp := aW_ hb | have hp := aX_ hb | skip)))
def c58 : LC :=
 .seq (.ops [.s 2 (.mov (.const (.bool false)))]) (.seq (.seq (.ops [.m 4 0, .ll 5 4, .bk 6 .gtr false 5 400]) (.cond (.tmp 6) (.seq (.ops [.s 2 (.mov (.const (.bool false)))]) .ret) .skip)) (.seq (.seq (.ops [.ki 3 0])
 (.block 0 (.loop (.seq (.seq (.ops [.m 7 3, .m 8 0, .ll 9 8, .bb 10 .lss false 7 9]) (.cond (.tmp 10) .skip (.exit 0))) (.seq (.block 1 (.seq (.ops [.m 13 0, .m 14 3, .ia 15 2 13 14, .ld 16 2 15, .c1 17 102 16, .nt 18
 17]) (.cond (.tmp 18) (.seq (.ops [.s 2 (.mov (.const (.bool false)))]) .ret) .skip))) (.ops [.m 11 3, .bk 12 .add false 11 1, .m 3 12])))))) (.seq (.ops [.s 2 (.mov (.const (.bool true)))]) .ret)))
def uQ_ : LF := ⟨1, 19, c58, [.tmp 2]⟩
theorem Ee_ : at_ Tryz.prog Tryz.f58 uQ_ := ai_
theorem oC_ (xs : List ah_) (hs : ao_ ah_.sz xs ≤ 1048576) (h : List Row) : aa_ Tryz.prog 58 [.list 0 2 (xs.map ah_.cells)] h (.val (.bool (cn_ xs))) := by
 refine aj_ mixed Tryz.func58 Ee_ rfl rfl ?_ h
 have hx := ax_ hs
 have hm : ∀ x ∈ xs, ah_.sz x ≤ 1048576 := fun x hx => by have := bD_ (f := ah_.sz) hx; omega
 by_cases h4 : (xs.length : Int) ≤ 400
 ·have h4' : ((400 : Int) < xs.length) = False := eq_false (by omega)
  have hS0 : cn_ xs = xs.all cN_ := by simp [cn_, h4]
  simp (disch := omega) only [uQ_, c58, h4', go_sem, reduceCtorEq, ↓reduceIte]
  refine aL_ (fun n t h => ∃ k : Nat, t 0 = .list 0 2 (xs.map ah_.cells) ∧ t 3 = .val (.int .i64 k) ∧ n = xs.length - k ∧ k ≤ xs.length ∧ (xs.all cN_ = (xs.drop k).all cN_)) (xs.length) ?_ ?_
  ·exact ⟨0, rfl, rfl, rfl, Nat.zero_le _, rfl⟩
  ·rintro J hJ n t h ⟨k, t0, k3, rfl, hk, hS⟩
   by_cases hlt : k < xs.length
   ·skip
    rw [l3_ cN_ xs k hlt] at hS
    simp (disch := omega) only [t0, k3, hlt, ah_.cells, go_sem, Nat.reduceEqDiff, Nat.reduceAdd, reduceCtorEq, ↓reduceIte]
    repeat' (first
     | exact af_ _ _
     | exact ⟨xs.length - (k + 1), by omega, hJ _ _ _ ⟨k + 1, by simp [upd, t0], by simp [upd], rfl, by omega, by rw [hS]; first | (simp only [*, Bool.true_and]; done) | simp [*]⟩⟩
     | (refine ae_ ?_; rw [hS0, hS]; first | (simp only [*, Bool.false_and]; done) | (simp [*]; done))
     | (refine ae_ ?_; rw [hS0, hS, hP_ _ _ _ (by omega)])
     | simp (disch := omega) only [k3, go_sem, Nat.reduceEqDiff, ↓reduceIte]
     | (refine aa_.call (eV_ (xs[k]) (hm _ (getElem_mem hlt)) _) ?_)
     | (refine aa_.q (eV_ (xs[k]) (hm _ (getElem_mem hlt)) _) ?_)
     | ((first | (apply aF_; assumption) | (apply aE_; assumption) | (apply aN_; assumption) | (apply aO_; assumption)); intro hb; try simp only [hb])
     | ((first | apply ak_ | apply an_) <;> intro hb <;> (try simp only [hb]) <;> (first | have hp := aV_ hb | have hp := aU_ hb | have hp := aW_ hb | have hp := aX_ hb | skip)))
   ·skip
    simp (disch := omega) only [t0, k3, hlt, go_sem, Nat.reduceEqDiff, reduceCtorEq, ↓reduceIte]
    repeat' (first
     | exact af_ _ _
     | (refine ae_ ?_; rw [hS0, hS]; first | (simp only [*, Bool.and_true, Bool.true_and, Bool.and_false, Bool.false_and, Bool.or_true, Bool.true_or, Bool.or_false, Bool.false_or, Bool.not_true, Bool.not_false, decide_true, decide_false, Bool.and_self, Bool.or_self]; done) | (simp [*]; done))
     | (refine ae_ ?_; rw [hS0, hS, hP_ _ _ _ (by omega)])
     | simp (disch := omega) only [t0, k3, go_sem, Nat.reduceEqDiff, Nat.reduceAdd, Nat.reduceLeDiff, reduceCtorEq, Int.reduceLT, Int.reduceLE, Int.reduceNeg, Int.reduceSub, Int.reduceAdd, Int.reduceToNat, ↓reduceIte]
     | (refine aa_.call (eV_ (xs[k]) (hm _ (getElem_mem hlt)) _) ?_)
     | (refine aa_.q (eV_ (xs[k]) (hm _ (getElem_mem hlt)) _) ?_)
     | ((first | (apply aF_; assumption) | (apply aE_; assumption) | (apply aN_; assumption) | (apply aO_; assumption)); intro hb; try simp only [hb])
     | ((first | apply ak_ | apply an_) <;> intro hb <;> (try simp only [hb]) <;> (first | have hp := aV_ hb | have hp := aU_ hb | have hp := aW_ hb | have hp := aX_ hb | skip)))
 ·have h4' : ((400 : Int) < xs.length) = True := eq_true (by omega)
  simp (disch := omega) only [uQ_, c58, h4', go_sem, reduceCtorEq, ↓reduceIte]
  exact ae_ (by simp [cn_, h4])
def cz_ : ad_ → List ah_ → Nat → ad_ × Int × Int
 | x, [], _ => (x, 0, 0)
 | x, b :: bs, k => if (bI_ x b.Events).2.2 = 0 then cz_ (bI_ x b.Events).1 bs (k + 1) else (⟨[]⟩, (k : Int), (bI_ x b.Events).2.2)
def bz_ (x : ad_) (bs : List ah_) : ad_ × Int × Int := if (aH_ x && cn_ bs) = true then cz_ x bs 0 else (⟨[]⟩, 0, 1)
theorem jq_ {x : ad_} {es : List ab_} (h : aH_ x = true) : aH_ (bI_ x es).1 = true := by
 unfold bI_
 split
 ·rename_i q
  simp only [Bool.and_eq_true] at q
  exact mq_ es x 0 h (kz_ q.2).2
 ·exact f9_
theorem oe_ : ∀ (bs : List ah_) (x : ad_) (k : Nat), aH_ x = true → aH_ (cz_ x bs k).1 = true
 | [], x, k, h => h
 | b :: bs, x, k, h => by
  unfold cz_
  split
  ·exact oe_ bs _ _ (jq_ h)
  ·exact f9_
theorem ug_ (x : ad_) (bs : List ah_) : aH_ (bz_ x bs).1 = true := by
 unfold bz_
 split
 ·rename_i h
  simp only [Bool.and_eq_true] at h
  exact oe_ bs x 0 h.1
 ·exact f9_
theorem ot_ (x : ad_) (bs : List ah_) : ad_.sz (bz_ x bs).1 ≤ 1048576 := dd_ (ug_ x bs)
theorem lB_ {x : ad_} {bs : List ah_} {k : Nat} (h : k < bs.length) (h0 : (bI_ x bs[k].Events).2.2 = 0) : cz_ x (bs.drop k) k = cz_ (bI_ x bs[k].Events).1 (bs.drop (k + 1)) (k + 1) := by
 rw [cF_ h, cz_, if_pos h0]
theorem lx_ {x : ad_} {bs : List ah_} {k : Nat} (h : k < bs.length) (h0 : ¬ (bI_ x bs[k].Events).2.2 = 0) : cz_ x (bs.drop k) k = (⟨[]⟩, (k : Int), (bI_ x bs[k].Events).2.2) := by
 rw [cF_ h, cz_, if_neg h0]
theorem ms_ {x : ad_} {bs : List ah_} {k : Nat} (h : bs.length ≤ k) : cz_ x (bs.drop k) k = (x, 0, 0) := by
 rw [drop_eq_nil_of_le h, cz_]
theorem q4_ {bs : List ah_} (h : cn_ bs = true) : bs.length ≤ 400 ∧ ∀ b ∈ bs, cN_ b = true := by
 simp only [cn_, Bool.and_eq_true, decide_eq_true_eq, all_eq_true] at h
 exact ⟨by omega, h.2⟩
theorem rd_ {b : ah_} (h : cN_ b = true) : c8_ b.Events = true := by
 simp only [cN_, Bool.and_eq_true] at h
 exact h.2
theorem rV_ {x : ad_} {es : List ab_} (h1 : aH_ x = true) (h2 : c8_ es = true) : bI_ x es = cm_ x es 0 := by simp [bI_, h1, h2]
structure jJ_ (L lo : Nat) (H : List Row) (x : ad_) : Prop where
 out : ∃ (a : AV) (p q : Nat), H[L]? = some ⟨30, 1, [[a]]⟩ ∧ a.cell = true ∧ lo ≤ p ∧ p ≤ q ∧ q ≤ H.length ∧ (q ≤ L ∨ L < p) ∧ aA_ p q H (.agg [a]) (.agg (ad_.cells x))
section
variable {L lo : Nat} {H H' : List Row} {x : ad_}
theorem jJ_.keep (T : jJ_ L lo H x) (hL : lo ≤ L) (hk : ∀ y, lo ≤ y → y < H.length → H'[y]? = H[y]?) (hl : H.length ≤ H'.length) : jJ_ L lo H' x := by
 obtain ⟨a, p, q, o, ca, h1, h2, h3, h4, h5⟩ := T
 exact ⟨a, p, q, (hk L hL (List.getElem?_eq_some_iff.1 o).1).trans o, ca, h1, h2, by omega, h4, h5.keep fun y q1 q2 => hk y (by omega) (by omega)⟩
theorem jJ_.lt (T : jJ_ L lo H x) : L < H.length := by
 obtain ⟨a, p, q, o, _⟩ := T
 exact (List.getElem?_eq_some_iff.1 o).1
end
def c22 : LC :=
 .seq (.ops [.s 2 (.box 30 (.tmp 0)), .s 4 (.alloc 30 (.agg #[.slice none 0 0])), .ki 5 0, .ki 6 0]) (.seq (.seq (.ops [.ld 13 1 2, .c1 14 47 13, .nt 15 14, .m 16 15, .g 17 16 false (.mov (.tmp 1)), .g 18 16 false (.call
 61 [.tmp 17]), .g 19 16 false (.un .not (.tmp 18)), .pt 20 16 19]) (.cond (.tmp 20) (.seq (.ops [.s 21 (.build (.agg #[.slice none 0 0]) [(0, 1)] []), .st 1 4 21, .ki 5 0, .ki 6 1]) .ret) .skip)) (.seq (.ops [.ld 22 1 2,
 .c1 23 49 22, .s 7 (.alloc 30 (.agg #[.slice none 0 0])), .st 1 7 23]) (.seq (.seq (.ops [.m 24 1, .ll 25 24, .ki 26 0]) (.block 0 (.loop (.seq (.ops [.bb 27 .lss false 26 25]) (.seq (.cond (.tmp 27) .skip (.exit 0))
 (.seq (.block 1 (.seq (.ops [.m 28 26, .ia 29 2 24 26, .ld 30 2 29, .s 9 (.alloc 92 (.agg #[.int .i64 0, .slice none 0 0])), .m 8 28, .st 2 9 30]) (.seq (.ops [.ld 32 1 7, .fa 33 1 9, .ln 34 33, .c2 35 13 32 34, .m 31
 35, .ex 36 31 0, .ex 37 31 1, .ex 38 31 2, .s 10 (.alloc 30 (.agg #[.slice none 0 0])), .st 1 10 36, .m 11 37, .m 12 38]) (.seq (.seq (.ops [.m 39 12, .bk 40 .neq false 39 0]) (.cond (.tmp 40) (.seq (.ops [.s 41 (.build
 (.agg #[.slice none 0 0]) [(0, 1)] []), .m 42 8, .m 43 12, .st 1 4 41, .m 5 42, .m 6 43]) .ret) .skip)) (.ops [.ld 44 1 10, .st 1 7 44]))))) (.ops [.bk 45 .add false 26 1, .m 26 45]))))))) (.seq (.ops [.ld 46 1 7, .st 1
 4 46, .ki 5 0, .ki 6 0]) .ret))))
def AX_ : LF := ⟨2, 47, c22, [.cell 4 (some 1), .tmp 5, .tmp 6]⟩
theorem DJ_ : at_ Tryz.prog Tryz.f22 AX_ := ai_
theorem eG_ (x : ad_) (bs : List ah_) (hx : ad_.sz x ≤ 1048576) (hb : ao_ ah_.sz bs ≤ 1048576) : aP_ Tryz.prog 22 [.agg (ad_.cells x), .list 0 2 (bs.map ah_.cells)] (i8_ (bz_ x bs)) po_ := by
 refine bT_ mixed Tryz.func22 DJ_ rfl (fun h0 => ?_)
 have htr : ∀ H, aa_ Tryz.prog 47 [.agg [.list 0 3 (x.Nodes.map ac_.cells)]] H (.val (.bool (aH_ x))) := fun H => gN_ x hx H
 have hno : ∀ H, aa_ Tryz.prog 61 [.list 0 2 (bs.map ah_.cells)] H (.val (.bool (cn_ bs))) := fun H => lv_ bs hb H
 have hcp : gU_ Tryz.prog 49 [.agg [.list 0 3 (x.Nodes.map ac_.cells)]] (.agg (ad_.cells x)) _ := hx_ x hx
 have hl := ax_ hb
 simp (disch := (first | omega | (simp only [ls_, la_, lc_, ln_]; first | done | omega))) only [aQ_, go_sem, Nat.reduceEqDiff, ↓reduceIte, AX_, c22, ad_.cells]
 refine aa_.call (htr _) ?_
 by_cases q1 : aH_ x = true
 case neg =>
  have q1' : aH_ x = false := by simpa using q1
  have hR : bz_ x bs = (⟨[]⟩, 0, 1) := by simp [bz_, q1']
  simp (disch := (first | omega | (simp only [ls_, la_, lc_, ln_]; first | done | omega))) only [cB_, go_sem, Nat.reduceEqDiff, ↓reduceIte, q1', bH_, Option.map_some, b7_]
  rw [hR]
  exact ⟨⟨by first | exact aJ_.app _ _ | exact (aJ_.app _ _).set (by omega), gG_ (gV_ (by simp)) (by simp) _ _⟩, _, rfl, _, _, rfl⟩
 simp (disch := (first | omega | (simp only [ls_, la_, lc_, ln_]; first | done | omega))) only [go_sem, Nat.reduceEqDiff, ↓reduceIte, q1]
 refine aa_.call (hno _) ?_
 by_cases q2 : cn_ bs = true
 case neg =>
  have q2' : cn_ bs = false := by simpa using q2
  have hR : bz_ x bs = (⟨[]⟩, 0, 1) := by simp [bz_, q2']
  simp (disch := (first | omega | (simp only [ls_, la_, lc_, ln_]; first | done | omega))) only [cB_, go_sem, Nat.reduceEqDiff, ↓reduceIte, q2', bH_, Option.map_some, b7_]
  rw [hR]
  exact ⟨⟨by first | exact aJ_.app _ _ | exact (aJ_.app _ _).set (by omega), gG_ (gV_ (by simp)) (by simp) _ _⟩, _, rfl, _, _, rfl⟩
 have hR : bz_ x bs = cz_ x bs 0 := by simp [bz_, q1, q2]
 rw [hR]
 simp (disch := (first | omega | (simp only [ls_, la_, lc_, ln_]; first | done | omega))) only [aQ_, go_sem, Nat.reduceEqDiff, ↓reduceIte, q2]
 refine hcp _ _ (fun av H1 m1 F1 q3 => ?_)
 obtain ⟨l, rfl, es1, hrow⟩ := q3
 have l1 := m1.len
 have p1 := m1.at (i := h0.length + 1) (by rw [b8_]; rfl)
 simp only [la_, lc_, ln_] at l1
 have m0 : aJ_ h0 H1 := (aJ_.app h0 _).trans m1
 have B0 : jJ_ H1.length (h0.length + 2) (H1 ++ [⟨30, 1, [[.own l x.Nodes.length]]⟩]) x := ⟨_, h0.length + 2, H1.length, aQ_ rfl, rfl, Nat.le_refl _, by omega, by simp, .inl (Nat.le_refl _), (F1.tree.keep fun y _ q => aw_ q).widen (by simp) (Nat.le_refl _)⟩
 simp (disch := (first | omega | (simp only [ls_, la_, lc_, ln_]; first | done | omega))) only [aQ_, go_sem, Nat.reduceEqDiff, ↓reduceIte]
 refine aL_ (fun n t h => ∃ (k : Nat) (y : ad_), t 4 = .ptr (h0.length + 1) 1 0 0 ∧ t 7 = .ptr H1.length 1 0 0 ∧ t 24 = .list 0 2 (bs.map ah_.cells) ∧ t 25 = .val (.int .i64 bs.length) ∧ t 26 = .val (.int .i64 k) ∧ aJ_ h0 h ∧ h[h0.length + 1]? = some ⟨30, 1, [[.val (.slice none 0 0)]]⟩ ∧
  jJ_ H1.length (h0.length + 2) h y ∧ aH_ y = true ∧ cz_ x bs 0 = cz_ y (bs.drop k) k ∧ n = bs.length - k ∧ k ≤ bs.length) bs.length ?_ ?_
 ·refine ⟨0, x, rfl, rfl, rfl, rfl, rfl, ?_, ?_, ?_, q1, rfl, rfl, Nat.zero_le _⟩
  ·first | exact m0.add _ | exact (m0.add _).set (by omega)
  ·(repeat (first | rw [ar_ (by omega)] | rw [aw_ (by first | omega | (simp only [ls_, la_, lc_, ln_]; omega))])); exact p1
  ·first | exact B0 | (refine cast ?_ B0; congr 1; simp)
 rintro J hJ n t h ⟨k, y, t4, t7, t24, t25, t26, hM, o1, T, hy, hS, rfl, hk⟩
 have ml := hM.len
 have hlL := T.lt
 obtain ⟨a, p, q, o, ca, z1, z2, z3, z4, hF⟩ := id T
 have hol := (List.getElem?_eq_some_iff.1 o1).1
 have ca' := ca
 simp only [AV.cell, Value.oneCell'] at ca'
 by_cases hlt : k < bs.length
 ·have hzk : ao_ ab_.sz bs[k].Events ≤ 1048576 := ah_.sz_Events (b6_ hb (getElem_mem hlt))
  simp (disch := (first | omega | (simp only [ls_, la_, lc_, ln_]; first | done | omega))) only [aw_, aQ_, go_sem, Nat.reduceEqDiff, Nat.reduceAdd, ↓reduceIte, t7, t24, t25, t26, o, hlt, ah_.cells]
  refine d0_ (lq_ y bs[k].Events (dd_ hy) hzk) (a3_.cons (hF.keep fun z _ q => by (repeat (first | rw [ar_ (by omega)] | rw [aw_ (by first | omega | (simp only [ls_, la_, lc_, ln_]; omega))]))).arg.any (a3_.cons (bL_.same rfl) a3_.nil)) (fun av H2 m2 F2 q3 => ?_)
  obtain ⟨b, cb, v, v2, rfl⟩ := q3
  obtain ⟨G, hv, hv2⟩ := F2.three
  simp only [AV.val.injEq, Value.int.injEq, true_and] at hv hv2
  subst hv hv2
  have l2 := m2.len
  simp only [la_, lc_, ln_] at l2
  have cb' := cb
  simp only [AV.cell, Value.oneCell'] at cb'
  have o2 : H2[h0.length + 1]? = some ⟨30, 1, [[.val (.slice none 0 0)]]⟩ := by
   rw [m2.kept _ (by simp; omega)]; (repeat (first | rw [ar_ (by omega)] | rw [aw_ (by first | omega | (simp only [ls_, la_, lc_, ln_]; omega))])); exact o1
  have o3 : H2[H1.length]? = some ⟨30, 1, [[a]]⟩ := by
   rw [m2.kept _ (by simp; omega)]; (repeat (first | rw [ar_ (by omega)] | rw [aw_ (by first | omega | (simp only [ls_, la_, lc_, ln_]; omega))])); exact o
  have hM2 : aJ_ h0 H2 := ⟨by omega, fun z q => by
   rw [m2.kept z (by simp; omega)]; (repeat (first | rw [ar_ (by omega)] | rw [aw_ (by first | omega | (simp only [ls_, la_, lc_, ln_]; omega))])); exact hM.kept z q⟩
  by_cases hc : (bI_ y bs[k].Events).2.2 = 0
  ·simp (disch := (first | omega | (simp only [ls_, la_, lc_, ln_]; first | done | omega))) only [aw_, aQ_, go_sem, Nat.reduceEqDiff, ↓reduceIte, t7, t26, o3, cb', hc]
   refine ⟨bs.length - (k + 1), by omega, hJ _ _ _ ⟨k + 1, (bI_ y bs[k].Events).1, by simp [upd, t4], by simp [upd, t7], by simp [upd, t24], by simp [upd, t25], by simp [upd], ?_, ?_, ?_, jq_ hy, by rw [hS, lB_ hlt hc], rfl, by omega⟩⟩
   ·first | exact (hM2.add _).set (by omega) | exact ((hM2.add _).set (by omega)).set (by omega) | exact (hM2.set (by omega)).add _
   ·(repeat (first | rw [ar_ (by omega)] | rw [aw_ (by first | omega | (simp only [ls_, la_, lc_, ln_]; omega))])); exact o2
   ·refine ⟨b, h.length + 1, H2.length, ?_, cb, by omega, by omega, by simp, .inr (by omega), (G.tree.keep fun z q1 q2 => by simp only [la_, lc_, ln_] at q1; (repeat (first | rw [ar_ (by omega)] | rw [aw_ (by first | omega | (simp only [ls_, la_, lc_, ln_]; omega))]))).widen (by simp) (Nat.le_refl _)⟩
    first | exact aD_ (by simp; omega) | (rw [ar_ (by omega)]; exact aD_ (by simp; omega)) | (rw [aw_ (by simp; omega)]; exact aD_ (by omega))
  ·have hc' : ((bI_ y bs[k].Events).2.2 = 0) = False := eq_false hc
   simp (disch := (first | omega | (simp only [ls_, la_, lc_, ln_]; first | done | omega))) only [aD_, aw_, aQ_, go_sem, Nat.reduceEqDiff, ↓reduceIte, t4, o2, cb', hc', bH_, Option.map_some, b7_]
   rw [hS, lx_ hlt hc]
   exact ⟨⟨by first | exact (hM2.add _).set (by omega) | exact ((hM2.add _).set (by omega)).set (by omega) | exact hM2.add _, gG_ (gV_ (by simp; omega)) (by simp; omega) _ _⟩, _, rfl, _, _, rfl⟩
 ·simp (disch := (first | omega | (simp only [ls_, la_, lc_, ln_]; first | done | omega))) only [aD_, go_sem, Nat.reduceEqDiff, ↓reduceIte, t4, t7, t25, t26, o, o1, ca', hlt, b7_]
  rw [hS, ms_ (by omega)]
  exact ⟨⟨hM.set (by omega), gG_ ((hF.keep fun z q _ => ar_ (by omega)).widen (by omega) (by simp; omega)) (by simp; omega) _ _⟩, _, ca, _, _, rfl⟩
def Cl_ : LC :=
 .seq (.ops [.s 4 (.box 30 (.tmp 0)), .s 8 (.alloc 30 (.agg #[.slice none 0 0])), .ki 9 0]) (.seq (.ops [.ld 14 1 4, .m 15 1, .m 16 2, .c3 17 165 14 15 16, .m 13 17, .ex 18 13 0, .ex 19 13 1, .m 10 18, .m 11 19]) (.seq
 (.seq (.ops [.m 20 11, .nt 21 20, .m 22 21, .g 23 22 true (.fieldAddr 0 (.tmp 4)), .g 24 22 true (.load none (.tmp 23)), .g 25 22 true (.lenSl (.tmp 24)), .g 26 22 true (.bin .geq false (.tmp 25) (.const (.int .i64
 120))), .pf 27 22 26]) (.cond (.tmp 27) (.seq (.ops [.s 28 (.build (.agg #[.slice none 0 0]) [(0, 1)] []), .st 1 8 28, .ki 9 4]) .ret) .skip)) (.seq (.ops [.s 29 (.buildSlice 112 3 (.agg #[.string ⟨#[]⟩, .slice none 0 0,
 .string ⟨#[]⟩]) 0 []), .fa 30 0 4, .ln 31 30, .m 32 10, .s 33 (.sliceSl 3 (.tmp 31) none (some (.tmp 32))), .ap 34 112 3 56 29 33, .m 12 34]) (.seq (.ops [.m 35 12, .m 36 1, .m 37 2, .m 38 3, .s 39 (.build (.agg
 #[.string ⟨#[]⟩, .slice none 0 0, .string ⟨#[]⟩]) [(0, 1), (1, 1), (2, 1)] [(0, .tmp 36), (1, .tmp 37), (2, .tmp 38)]), .s 40 (.buildSlice 112 3 (.agg #[.string ⟨#[]⟩, .slice none 0 0, .string ⟨#[]⟩]) 1 [(0, .tmp 39)]),
 .ap 41 112 3 56 35 40, .m 12 41]) (.seq (.seq (.ops [.m 42 11]) (.cond (.tmp 42) (.ops [.m 43 10, .bk 44 .add false 43 1, .m 10 44]) .skip)) (.seq (.ops [.m 45 12, .fa 46 0 4, .ln 47 46, .m 48 10, .s 49 (.sliceSl 3 (.tmp
 47) (some (.tmp 48)) none), .ap 50 112 3 56 45 49, .c1 51 157 50, .s 52 (.build (.agg #[.slice none 0 0]) [(0, 1)] [(0, .tmp 51)]), .st 1 8 52, .ki 9 0]) .ret))))))
def wE_ : LF := ⟨4, 53, Cl_, [.cell 8 (some 1), .tmp 9]⟩
theorem BZ_ : at_ Tryz.prog Tryz.f201 wE_ := ai_
theorem sw_ (ns : List ac_) : ∀ e ∈ ns.map ac_.cells, e.all AV.cell = true := by
 intro e he
 obtain ⟨x, _, q⟩ := mem_map.1 he; subst q
 rfl
theorem ll_ (x : ad_) (n : ByteArray) (s : List ByteArray) (v : ByteArray) (hx : aH_ x = true) (ht : cR_ n s = true) (hv : v.size ≤ 64) (hs : ao_ ByteArray.size s ≤ 1048576) : aP_ Tryz.prog 201 [.agg (ad_.cells x), .val (.string n), .list 0 1 (s.map am_), .val (.string v)] (e6_ (if ds_ x n s = 0 then ⟨dJ_ x.Nodes n s v⟩ else ⟨[]⟩, ds_ x n s)) h5_ := by
 refine bT_ mixed Tryz.func201 BZ_ rfl (fun h0 => ?_)
 have hat : ∀ H, aa_ Tryz.prog 165 [.agg [.list 0 3 (x.Nodes.map ac_.cells)], .val (.string n), .list 0 1 (s.map am_)] H (.tup [.val (.int .i64 (bk_ x.Nodes n s)), .val (.bool (bu_ x.Nodes n s))]) := fun H => kd_ x n s (dd_ hx) hs H
 have hxl := hF_ hx
 have hpl := lg_ x.Nodes n s
 have hcv := sw_ x.Nodes
 simp (disch := (first | omega | (simp only [ls_, la_, lc_, ln_]; first | done | omega))) only [aQ_, go_sem, Nat.reduceEqDiff, ↓reduceIte, wE_, Cl_, ad_.cells]
 refine aa_.call (hat _) ?_
 generalize hH : (h0 ++ [⟨30, 1, [[.list 0 3 (x.Nodes.map ac_.cells)]]⟩, ⟨30, 1, [[.val (.slice none 0 0)]]⟩] : List Row) = H
 have o0 : H[h0.length]? = some ⟨30, 1, [[.list 0 3 (x.Nodes.map ac_.cells)]]⟩ := by rw [← hH, cy_]; rfl
 have o1 : H[h0.length + 1]? = some ⟨30, 1, [[.val (.slice none 0 0)]]⟩ := by rw [← hH, b8_]; rfl
 have hl : H.length = h0.length + 2 := by rw [← hH]; simp
 have hM : aJ_ h0 H := by rw [← hH]; exact aJ_.app _ _
 clear hH
 have fin : ds_ x n s = 0 → ∀ (H' : List Row) (es : List (List AV)) (k : Nat) (K : AV → List Row → Prop), aJ_ H H' → H.length < H'.length → H'[H.length]? = some ⟨112, 3, es⟩ → es = (dJ_ x.Nodes n s v).map ac_.cells → k = (dJ_ x.Nodes n s v).length →
  (∀ (l : Nat) (H1 : List Row), aJ_ H' H1 → FB H'.length H1.length H1 (.own l (dJ_ x.Nodes n s v).length) (.list 0 3 ((dJ_ x.Nodes n s v).map ac_.cells)) → K (.own l (dJ_ x.Nodes n s v).length) H1) →
  callSem Tryz.prog 157 [.own H.length k] H' K := by
  intro hC H' es k K hM' hHl o2 he hk hK
  have hok : aH_ ⟨dJ_ x.Nodes n s v⟩ = true := rj_ hx ht hv (by
   unfold ds_ at hC
   split at hC
   ·assumption
   ·cases hC)
  subst he hk
  refine d0_ (hv_ (dJ_ x.Nodes n s v) (ad_.sz_Nodes (dd_ hok))) (a3_.cons (bL_.res (n := 3) (lh_ o2 (by simp) (n9_ _))) a3_.nil) (fun av H1 m1 F1 q1 => ?_)
  obtain ⟨l, rfl⟩ := q1
  exact hK l H1 m1 F1
 cases hf : bu_ x.Nodes n s
 case true =>
  have hC : ds_ x n s = 0 := by rw [ds_, if_pos (.inl hf)]
  obtain ⟨hp, _, _⟩ := j0_ hf
  have hP : dJ_ x.Nodes n s v = x.Nodes.take (bk_ x.Nodes n s) ++ ⟨n, s, v⟩ :: x.Nodes.drop (bk_ x.Nodes n s + 1) := by rw [dJ_, if_pos hf]
  rw [hC, if_pos rfl]
  simp (disch := (first | omega | (simp only [ls_, la_, lc_, ln_]; first | done | omega))) only [aw_, aQ_, cB_, go_sem, Nat.reduceEqDiff, Nat.reduceAdd, Nat.reduceLeDiff, ↓reduceIte, o0, hpl, bH_, Option.map_some, length_map, la_, length_take, length_drop, lc_, ln_, drop_zero, nil_append, Nat.zero_add, if_pos]
  have htn : ((bk_ x.Nodes n s : Int) + 1).toNat = bk_ x.Nodes n s + 1 := by omega
  have hML : (x.Nodes.map ac_.cells).length ≤ x.Nodes.length := by simp
  refine ⟨by omega, by omega, fun e he => hcv e (mem_of_mem_take he), by omega, by omega, by omega, by omega, fun e he => hcv e (mem_of_mem_take (mem_of_mem_drop he)), ?_⟩
  refine fin hC _ _ _ _ (aJ_.app _ _) (by simp) (aQ_ rfl) ?_ ?_ (fun l H1 m1 F1 => ?_)
  ·rw [hP, htn, take_of_length_le hML]
   simp only [map_append, map_cons, map_take, map_drop]
   rfl
  ·rw [hP, la_, lc_, length_take, length_drop]; omega
  ·have o2 := m1.at ((aw_ (by omega)).trans o1)
   have l1 := m1.len
   simp only [la_, lc_, ln_] at l1
   simp (disch := (first | omega | (simp only [ls_, la_, lc_, ln_]; first | done | omega))) only [aD_, go_sem, Nat.reduceEqDiff, ↓reduceIte, o2, bH_, Option.map_some, dv_]
   exact ⟨⟨((hM.add _).trans m1).set (by omega), hJ_ ((aA_.agg (ap_.cons (F1.tree.keep fun z q _ => ar_ (by simp at q; omega)) (ap_.nil _ _ _) ⟨by simp; omega, Nat.le_refl _⟩)).widen (by simp; omega) (by simp)) (by simp; omega) _⟩, _, rfl, _, rfl⟩
 case false =>
  by_cases h120 : x.Nodes.length < 120
  ·have hC : ds_ x n s = 0 := by rw [ds_, if_pos (.inr h120)]
   have h120' : ((120 : Int) ≤ (x.Nodes.length : Int)) = False := eq_false (by omega)
   have hP : dJ_ x.Nodes n s v = x.Nodes.take (bk_ x.Nodes n s) ++ ⟨n, s, v⟩ :: x.Nodes.drop (bk_ x.Nodes n s) := l1_ hf
   rw [hC, if_pos rfl]
   simp (disch := (first | omega | (simp only [ls_, la_, lc_, ln_]; first | done | omega))) only [aw_, aQ_, cB_, go_sem, Nat.reduceEqDiff, Nat.reduceAdd, Nat.reduceLeDiff, ↓reduceIte, o0, hpl, bH_, Option.map_some, length_map, la_, length_take, length_drop, lc_, ln_, drop_zero, nil_append, Nat.zero_add, h120']
   have hML : (x.Nodes.map ac_.cells).length ≤ x.Nodes.length := by simp
   refine ⟨by omega, by omega, fun e he => hcv e (mem_of_mem_take he), by omega, by omega, by omega, by omega, fun e he => hcv e (mem_of_mem_take (mem_of_mem_drop he)), ?_⟩
   refine fin hC _ _ _ _ (aJ_.app _ _) (by simp) (aQ_ rfl) ?_ ?_ (fun l H1 m1 F1 => ?_)
   ·rw [hP, take_of_length_le hML]
    simp only [map_append, map_cons, map_take, map_drop]
    rfl
   ·rw [hP, la_, lc_, length_take, length_drop]; omega
   ·have o2 := m1.at ((aw_ (by omega)).trans o1)
    have l1 := m1.len
    simp only [la_, lc_, ln_] at l1
    simp (disch := (first | omega | (simp only [ls_, la_, lc_, ln_]; first | done | omega))) only [aD_, go_sem, Nat.reduceEqDiff, ↓reduceIte, o2, bH_, Option.map_some, dv_]
    exact ⟨⟨((hM.add _).trans m1).set (by omega), hJ_ ((aA_.agg (ap_.cons (F1.tree.keep fun z q _ => ar_ (by simp at q; omega)) (ap_.nil _ _ _) ⟨by simp; omega, Nat.le_refl _⟩)).widen (by simp; omega) (by simp)) (by simp; omega) _⟩, _, rfl, _, rfl⟩
  ·have hC : ds_ x n s = 4 := by rw [ds_, if_neg (by rw [hf]; simp; omega)]
   have h120' : ((120 : Int) ≤ (x.Nodes.length : Int)) = True := eq_true (by omega)
   rw [hC, if_neg (by decide)]
   simp (disch := (first | omega | (simp only [ls_, la_, lc_, ln_]; first | done | omega))) only [aD_, go_sem, Nat.reduceEqDiff, ↓reduceIte, o0, o1, length_map, h120', bH_, Option.map_some, dv_]
   exact ⟨⟨hM.set (by omega), hJ_ (gV_ (by simp; omega)) (by simp; omega) _⟩, _, rfl, _, rfl⟩
def u3_ : LC :=
 .seq (.ops [.s 2 (.box 30 (.tmp 0)), .s 3 (.box 126 (.tmp 1)), .s 4 (.alloc 30 (.agg #[.slice none 0 0])), .ki 5 0]) (.seq (.seq (.ops [.fa 6 0 3, .ln 7 6, .bk 8 .eql false 7 1]) (.cond (.tmp 8) (.seq (.ops [.ld 9 1 2,
 .fa 10 1 3, .ln 11 10, .fa 12 2 3, .ln 13 12, .fa 14 3 3, .ln 15 14, .s 16 (.call 201 [.tmp 9, .tmp 11, .tmp 13, .tmp 15]), .ex 17 16 0, .ex 18 16 1, .st 1 4 17, .m 5 18]) .ret) .skip)) (.seq (.ops [.ld 19 1 2, .fa 20 1
 3, .ln 21 20, .fa 22 2 3, .ln 23 22, .c3 24 202 19 21 23, .st 1 4 24, .ki 5 0]) .ret))
def rI_ : LF := ⟨2, 25, u3_, [.cell 4 (some 1), .tmp 5]⟩
theorem zj_ : at_ Tryz.prog Tryz.f171 rI_ := ai_
theorem lZ_ (x : ad_) (c : a5_) (hx : aH_ x = true) (hc : cZ_ c = true) (hz : a5_.sz c ≤ 1048576) : aP_ Tryz.prog 171 [.agg (ad_.cells x), .agg (a5_.cells c)] (e6_ (b0_ x c)) h5_ := by
 refine bT_ mixed Tryz.func171 zj_ rfl (fun h0 => ?_)
 have hs := a5_.sz_Subs hz
 have hc2 := hc
 simp only [cZ_, Bool.and_eq_true, Bool.or_eq_true, decide_eq_true_eq] at hc2
 by_cases hk1 : c.Kind = 1
 ·have hk1' : (c.Kind = 1) = True := eq_true hk1
  have hv : c.Value.size ≤ 64 := by rcases hc2.2 with ⟨_, q⟩ | ⟨q, _⟩ <;> omega
  have hR : b0_ x c = (if ds_ x c.Name c.Subs = 0 then ⟨dJ_ x.Nodes c.Name c.Subs c.Value⟩ else ⟨[]⟩, ds_ x c.Name c.Subs) := by
   unfold b0_ ds_
   rw [if_pos hk1]
   split
   ·rfl
   ·rfl
  have hput : aP_ Tryz.prog 201 [.agg [.list 0 3 (x.Nodes.map ac_.cells)], .val (.string c.Name), .list 0 1 (c.Subs.map am_), .val (.string c.Value)] (e6_ (b0_ x c)) h5_ := by
   rw [hR]; exact ll_ x c.Name c.Subs c.Value hx hc2.1 hv hs
  simp (disch := (first | omega | (simp only [ls_, la_, lc_, ln_]; first | done | omega))) only [aQ_, cB_, go_sem, Nat.reduceEqDiff, Nat.reduceAdd, ↓reduceIte, rI_, u3_, ad_.cells, a5_.cells, hk1']
  refine bJ_ hput (fun av H1 m1 F1 q1 => ?_)
  obtain ⟨b, cb, v, rfl⟩ := q1
  obtain ⟨G, hv⟩ := F1.two
  simp only [AV.val.injEq, Value.int.injEq, true_and] at hv
  subst hv
  have cb' := cb
  simp only [AV.cell, Value.oneCell'] at cb'
  have l1 := m1.len
  simp only [la_, lc_, ln_] at l1
  have p2 := m1.at (i := h0.length + 2) (by rw [b8_]; rfl)
  simp (disch := (first | omega | (simp only [ls_, la_, lc_, ln_]; first | done | omega))) only [aD_, go_sem, Nat.reduceEqDiff, ↓reduceIte, p2, cb', dv_]
  exact ⟨⟨((aJ_.app h0 _).trans m1).set (by omega), hJ_ ((G.tree.keep fun z q _ => ar_ (by simp at q; omega)).widen (by simp) (by simp)) (by simp; omega) _⟩, _, cb, _, rfl⟩
 ·have hk1' : (c.Kind = 1) = False := eq_false hk1
  have hR : b0_ x c = (⟨cT_ x.Nodes c.Name c.Subs⟩, 0) := by rw [b0_, if_neg hk1]
  have hkill : aP_ Tryz.prog 202 [.agg [.list 0 3 (x.Nodes.map ac_.cells)], .val (.string c.Name), .list 0 1 (c.Subs.map am_)] (.agg (ad_.cells ⟨cT_ x.Nodes c.Name c.Subs⟩)) (fun a => ∃ l, a = .agg [.own l (cT_ x.Nodes c.Name c.Subs).length]) := kN_ x c.Name c.Subs (dd_ hx)
  rw [hR]
  simp (disch := (first | omega | (simp only [ls_, la_, lc_, ln_]; first | done | omega))) only [aQ_, cB_, go_sem, Nat.reduceEqDiff, Nat.reduceAdd, ↓reduceIte, rI_, u3_, ad_.cells, a5_.cells, hk1']
  refine bJ_ hkill (fun av H1 m1 F1 q1 => ?_)
  obtain ⟨l, rfl⟩ := q1
  have l1 := m1.len
  simp only [la_, lc_, ln_] at l1
  have p2 := m1.at (i := h0.length + 2) (by rw [b8_]; rfl)
  simp (disch := (first | omega | (simp only [ls_, la_, lc_, ln_]; first | done | omega))) only [aD_, go_sem, Nat.reduceEqDiff, ↓reduceIte, p2, dv_]
  exact ⟨⟨((aJ_.app h0 _).trans m1).set (by omega), hJ_ ((F1.tree.keep fun z q _ => ar_ (by simp at q; omega)).widen (by simp) (by simp)) (by simp; omega) _⟩, _, rfl, _, rfl⟩
def jH_ (x : ad_) (c : a5_) : ad_ × Int := if (aH_ x && cZ_ c) = true then b0_ x c else (⟨[]⟩, 1)
def BF_ : LC :=
 .seq (.ops [.s 2 (.box 30 (.tmp 0)), .s 3 (.box 126 (.tmp 1)), .s 4 (.alloc 30 (.agg #[.slice none 0 0])), .ki 5 0]) (.seq (.seq (.ops [.ld 6 1 2, .c1 7 41 6, .nt 8 7, .m 9 8, .g 10 9 false (.load (some 4) (.tmp 3)), .g
 11 9 false (.call 170 [.tmp 10]), .g 12 9 false (.un .not (.tmp 11)), .pt 13 9 12]) (.cond (.tmp 13) (.seq (.ops [.s 14 (.build (.agg #[.slice none 0 0]) [(0, 1)] []), .st 1 4 14, .ki 5 1]) .ret) .skip)) (.seq (.ops [.ld
 15 1 2, .ld 16 4 3, .c2 17 171 15 16, .ex 18 17 0, .ex 19 17 1, .st 1 4 18, .m 5 19]) .ret))
def xD_ : LF := ⟨2, 20, BF_, [.cell 4 (some 1), .tmp 5]⟩
theorem zW_ : at_ Tryz.prog Tryz.f133 xD_ := ai_
theorem ki_ (x : ad_) (c : a5_) (hx : ad_.sz x ≤ 1048576) (hz : a5_.sz c ≤ 1048576) : aP_ Tryz.prog 133 [.agg (ad_.cells x), .agg (a5_.cells c)] (e6_ (jH_ x c)) h5_ := by
 refine bT_ mixed Tryz.func133 zW_ rfl (fun h0 => ?_)
 have htr : ∀ H, aa_ Tryz.prog 41 [.agg [.list 0 3 (x.Nodes.map ac_.cells)]] H (.val (.bool (aH_ x))) := fun H => cL_ x hx H
 have hch : ∀ H, aa_ Tryz.prog 170 [.agg [.val (.int .i64 c.Kind), .val (.string c.Name), .list 0 1 (c.Subs.map am_), .val (.string c.Value)]] H (.val (.bool (cZ_ c))) := fun H => l0_ c hz H
 simp (disch := (first | omega | (simp only [ls_, la_, lc_, ln_]; first | done | omega))) only [aQ_, go_sem, Nat.reduceEqDiff, Nat.reduceAdd, ↓reduceIte, xD_, BF_, ad_.cells, a5_.cells]
 refine aa_.call (htr _) ?_
 by_cases q1 : aH_ x = true
 case neg =>
  have q1' : aH_ x = false := by simpa using q1
  have hR : jH_ x c = (⟨[]⟩, 1) := by simp [jH_, q1']
  simp (disch := (first | omega | (simp only [ls_, la_, lc_, ln_]; first | done | omega))) only [n5_, go_sem, Nat.reduceEqDiff, ↓reduceIte, q1', bH_, Option.map_some, dv_]
  rw [hR]
  exact ⟨⟨by first | exact aJ_.app _ _ | exact (aJ_.app _ _).set (by omega), hJ_ (gV_ (by simp)) (by simp) _⟩, _, rfl, _, rfl⟩
 simp (disch := (first | omega | (simp only [ls_, la_, lc_, ln_]; first | done | omega))) only [cB_, go_sem, Nat.reduceEqDiff, Nat.reduceAdd, ↓reduceIte, q1]
 refine aa_.call (hch _) ?_
 by_cases q2 : cZ_ c = true
 case neg =>
  have q2' : cZ_ c = false := by simpa using q2
  have hR : jH_ x c = (⟨[]⟩, 1) := by simp [jH_, q2']
  simp (disch := (first | omega | (simp only [ls_, la_, lc_, ln_]; first | done | omega))) only [n5_, go_sem, Nat.reduceEqDiff, ↓reduceIte, q2', bH_, Option.map_some, dv_]
  rw [hR]
  exact ⟨⟨by first | exact aJ_.app _ _ | exact (aJ_.app _ _).set (by omega), hJ_ (gV_ (by simp)) (by simp) _⟩, _, rfl, _, rfl⟩
 have hR : jH_ x c = b0_ x c := by simp [jH_, q1, q2]
 have hdo : aP_ Tryz.prog 171 [.agg [.list 0 3 (x.Nodes.map ac_.cells)], .agg [.val (.int .i64 c.Kind), .val (.string c.Name), .list 0 1 (c.Subs.map am_), .val (.string c.Value)]] (e6_ (b0_ x c)) h5_ := lZ_ x c q1 q2 hz
 rw [hR]
 simp (disch := (first | omega | (simp only [ls_, la_, lc_, ln_]; first | done | omega))) only [aQ_, cB_, go_sem, Nat.reduceEqDiff, Nat.reduceAdd, ↓reduceIte, q2]
 refine bJ_ hdo (fun av H1 m1 F1 q3 => ?_)
 obtain ⟨b, cb, v, rfl⟩ := q3
 obtain ⟨G, hv⟩ := F1.two
 simp only [AV.val.injEq, Value.int.injEq, true_and] at hv
 subst hv
 have cb' := cb
 simp only [AV.cell, Value.oneCell'] at cb'
 have l1 := m1.len
 simp only [la_, lc_, ln_] at l1
 have p2 := m1.at (i := h0.length + 2) (by rw [b8_]; rfl)
 simp (disch := (first | omega | (simp only [ls_, la_, lc_, ln_]; first | done | omega))) only [aD_, go_sem, Nat.reduceEqDiff, ↓reduceIte, p2, cb', dv_]
 exact ⟨⟨((aJ_.app h0 _).trans m1).set (by omega), hJ_ ((G.tree.keep fun z q _ => ar_ (by simp at q; omega)).widen (by simp) (by simp)) (by simp; omega) _⟩, _, cb, _, rfl⟩
def c84 : LC :=
 .seq (.ops [.s 2 (.box 30 (.tmp 0)), .s 3 (.box 79 (.tmp 1)), .s 4 (.alloc 30 (.agg #[.slice none 0 0])), .ki 5 0]) (.seq (.gops [.ld 6 1 2, .ld 7 5 3] [(.c1 8 134 7, [.ld 6 1 2]), (.c2 9 133 6 8, []), (.ex 10 9 0, []),
 (.ex 11 9 1, []), (.st 1 4 10, []), (.m 5 11, [])]) .ret)
def Dw_ : LF := ⟨2, 12, c84, [.cell 4 (some 1), .tmp 5]⟩
theorem Ez_ : at_ Tryz.prog Tryz.f84 Dw_ := ai_
theorem kA_ (x : ad_) (e : ab_) (hx : aH_ x = true) (hn : bx_ e = true) (ht : cd_ e = true) (hz : ab_.sz e ≤ 1048576) : aP_ Tryz.prog 84 [.agg (ad_.cells x), .agg (ab_.cells e)] (e6_ (b0_ x (dX_ e))) h5_ := by
 refine bT_ mixed Tryz.func84 Ez_ rfl (fun h0 => ?_)
 have hch : aP_ Tryz.prog 134 [.agg [.val (.int .i64 e.Kind), .val (.string e.Name), .list 0 1 (e.Subs.map am_), .val (.string e.Value), .val (.int .i64 e.N)]] (.agg (a5_.cells (dX_ e))) (fun a => ∃ l, a = .agg [.val (.int .i64 (dX_ e).Kind), .val (.string e.Name), .own l e.Subs.length, .val (.string e.Value)]) := jO_ e hz
 have hcz : a5_.sz (dX_ e) ≤ 1048576 := Nat.le_trans (Nat.le_refl (e.Name.size + ao_ ByteArray.size e.Subs + e.Value.size)) hz
 have hdc : jH_ x (dX_ e) = b0_ x (dX_ e) := by simp [jH_, hx, lJ_ hn ht]
 simp (disch := (first | omega | (simp only [ls_, la_, lc_, ln_]; first | done | omega))) only [aQ_, cB_, go_sem, Nat.reduceEqDiff, Nat.reduceAdd, ↓reduceIte, Dw_, c84, ad_.cells, ab_.cells]
 refine bJ_ hch (fun av H1 m1 F1 q3 => ?_)
 obtain ⟨l, rfl⟩ := q3
 have l1 := m1.len
 simp only [la_, lc_, ln_] at l1
 have p0 := m1.at (i := h0.length) (by rw [cy_]; rfl)
 have p2 := m1.at (i := h0.length + 2) (by rw [b8_]; rfl)
 simp (disch := (first | omega | (simp only [ls_, la_, lc_, ln_]; first | done | omega))) only [go_sem, Nat.reduceEqDiff, ↓reduceIte, p0]
 refine d0_ (ki_ x (dX_ e) (dd_ hx) hcz) (a3_.cons (bL_.same rfl) (a3_.cons F1.arg.any a3_.nil)) (fun av H2 m2 F2 q4 => ?_)
 obtain ⟨b, cb, v, rfl⟩ := q4
 obtain ⟨G, hv⟩ := F2.two
 simp only [AV.val.injEq, Value.int.injEq, true_and] at hv
 subst hv
 rw [hdc] at G ⊢
 have cb' := cb
 simp only [AV.cell, Value.oneCell'] at cb'
 have l2 := m2.len
 have p3 := m2.at p2
 simp (disch := (first | omega | (simp only [ls_, la_, lc_, ln_]; first | done | omega))) only [aD_, go_sem, Nat.reduceEqDiff, ↓reduceIte, p3, cb', dv_]
 exact ⟨⟨(((aJ_.app h0 _).trans m1).trans m2).set (by omega), hJ_ ((G.tree.keep fun z q _ => ar_ (by omega)).widen (by omega) (by simp)) (by simp; omega) _⟩, _, cb, _, rfl⟩
theorem u9_ {e : ab_} (hn : bx_ e = true) (hr : bF_ e = false) : cd_ e = true := by
 cases ht : cd_ e
 ·rw [qi_ hn ht] at hr; cases hr
 ·rfl
theorem tk_ {e : ab_} (hr : bF_ e = true) : cd_ e = false := by
 simp only [bF_, Bool.or_eq_true, decide_eq_true_eq] at hr
 simp only [cd_, Bool.or_eq_false_iff, decide_eq_false_iff_not]
 omega
structure jI_ (L : Nat) (a0 : AV) (x0 : ad_) (h : List Row) (y : ad_) : Prop where
 out : ∃ a, h[L]? = some ⟨30, 1, [[a]]⟩ ∧ a.cell = true ∧ ((a = a0 ∧ y = x0) ∨ aA_ (L + 2) h.length h (.agg [a]) (.agg (ad_.cells y)))
theorem jI_.lt {L : Nat} {a0 : AV} {x0 y : ad_} {h : List Row} (T : jI_ L a0 x0 h y) : L < h.length := by
 obtain ⟨a, o, _⟩ := T
 exact (List.getElem?_eq_some_iff.1 o).1
theorem jI_.keep {L : Nat} {a0 : AV} {x0 y : ad_} {h h' : List Row} (T : jI_ L a0 x0 h y) (hk : ∀ z, L ≤ z → z < h.length → z ≠ L + 1 → h'[z]? = h[z]?) (hl : h.length ≤ h'.length) : jI_ L a0 x0 h' y := by
 have hL := T.lt
 obtain ⟨a, o, ca, hF⟩ := T
 refine ⟨a, (hk L (Nat.le_refl _) hL (by omega)).trans o, ca, ?_⟩
 rcases hF with q | q
 ·exact .inl q
 ·exact .inr ((q.keep fun z q1 q2 => hk z (by omega) q2 (by omega)).widen (Nat.le_refl _) hl)
def c43 : LC :=
 .seq (.ops [.s 2 (.box 30 (.tmp 0)), .s 4 (.alloc 30 (.agg #[.slice none 0 0])), .ki 5 0, .ki 6 0]) (.seq (.seq (.ops [.ki 7 0]) (.block 0 (.loop (.seq (.seq (.ops [.m 10 7, .m 11 1, .ll 12 11, .bb 13 .lss false 10 12])
 (.cond (.tmp 13) .skip (.exit 0))) (.seq (.block 1 (.seq (.seq (.ops [.m 16 1, .m 17 7, .ia 18 5 16 17, .ld 19 5 18, .c1 20 81 19]) (.cond (.tmp 20) (.seq (.seq (.gops [.ld 21 1 2, .m 22 1, .m 23 7, .ia 24 5 22 23, .ld
 25 5 24, .m 27 1, .m 28 7, .ia 29 5 27 28, .ld 30 5 29] [(.c2 26 83 21 25, [.m 27 1, .m 28 7, .ia 29 5 27 28, .ld 30 5 29]), (.c2 31 82 26 30, []), (.nt 32 31, [])]) (.cond (.tmp 32) (.seq (.ops [.s 33 (.build (.agg
 #[.slice none 0 0]) [(0, 1)] []), .m 34 7, .st 1 4 33, .m 5 34, .ki 6 5]) .ret) .skip)) (.exit 1)) .skip)) (.seq (.gops [.ld 36 1 2, .m 37 1, .m 38 7, .ia 39 5 37 38, .ld 40 5 39] [(.c2 41 84 36 40, []), (.m 35 41, []),
 (.ex 42 35 0, []), (.ex 43 35 1, []), (.s 8 (.alloc 30 (.agg #[.slice none 0 0])), [.ld 36 1 2, .m 37 1, .m 38 7, .ia 39 5 37 38, .ld 40 5 39]), (.st 1 8 42, []), (.m 9 43, [])]) (.seq (.seq (.ops [.m 44 9, .bk 45 .neq
 false 44 0]) (.cond (.tmp 45) (.seq (.ops [.s 46 (.build (.agg #[.slice none 0 0]) [(0, 1)] []), .m 47 7, .m 48 9, .st 1 4 46, .m 5 47, .m 6 48]) .ret) .skip)) (.ops [.ld 49 1 8, .st 1 2 49]))))) (.ops [.m 14 7, .bk 15
 .add false 14 1, .m 7 15])))))) (.seq (.ops [.ld 50 1 2, .st 1 4 50, .ki 5 0, .ki 6 0]) .ret))
def Aj_ : LF := ⟨2, 51, c43, [.cell 4 (some 1), .tmp 5, .tmp 6]⟩
theorem DG_ : at_ Tryz.prog Tryz.f43 Aj_ := rp_
theorem me_ {H : List Row} {a0 : AV} (x : ad_) (es : List ab_) (ca0 : a0.cell = true) (hA0 : ∀ X : List Row, aJ_ H X → bL_ X (.agg [a0]) (.agg (ad_.cells x))) (hx : aH_ x = true) (hn : ∀ e ∈ es, bx_ e = true) (hz : ao_ ab_.sz es ≤ 1048576) {K : AV → List Row → Prop}
 (hk : ∀ (b : AV) (H' : List Row), aJ_ H H' → b.cell = true → ((b = a0 ∧ (cm_ x es 0).1 = x) ∨ aA_ H.length H'.length H' (.agg [b]) (.agg (ad_.cells (cm_ x es 0).1))) → K (.tup [.agg [b], .val (.int .i64 (cm_ x es 0).2.1), .val (.int .i64 (cm_ x es 0).2.2)]) H') :
 callSem Tryz.prog 43 [.agg [a0], .list 0 5 (es.map ab_.cells)] H K := by
 refine bd_ mixed Tryz.func43 DG_ (cb_ rfl ?_)
 have hl := ax_ hz
 have ca0' := ca0
 simp only [AV.cell, Value.oneCell'] at ca0'
 simp (disch := (first | omega | (simp only [ls_, la_, lc_, ln_]; first | done | omega))) only [go_sem, ↓reduceIte, Aj_, c43, ca0']
 refine aL_ (fun n t h => ∃ (k : Nat) (y : ad_), t 1 = .list 0 5 (es.map ab_.cells) ∧ t 2 = .ptr H.length 1 0 0 ∧ t 4 = .ptr (H.length + 1) 1 0 0 ∧ t 7 = .val (.int .i64 k) ∧ aJ_ H h ∧ h[H.length + 1]? = some ⟨30, 1, [[.val (.slice none 0 0)]]⟩ ∧
  jI_ H.length a0 x h y ∧ aH_ y = true ∧ cm_ x es 0 = cm_ y (es.drop k) k ∧ n = es.length - k ∧ k ≤ es.length) es.length ⟨0, x, rfl, rfl, rfl, rfl, aJ_.app _ _, by rw [b8_]; rfl, ⟨a0, by rw [cy_]; rfl, ca0, .inl ⟨rfl, rfl⟩⟩, hx, rfl, rfl, Nat.zero_le _⟩ ?_
 rintro J hJ n t h ⟨k, y, t1, t2, t4, t7, hM, o1, T, hy, hS, rfl, hk'⟩
 have ml := hM.len
 have hlL := T.lt
 obtain ⟨a, o0, ca, hF⟩ := id T
 have hol := (List.getElem?_eq_some_iff.1 o1).1
 have ca' := ca
 simp only [AV.cell, Value.oneCell'] at ca'
 have hA : bL_ h (.agg [a]) (.agg (ad_.cells y)) := by
  rcases hF with ⟨rfl, rfl⟩ | q
  ·exact hA0 h hM
  ·exact q.arg.any
 have hnil : ∀ X : List Row, aJ_ H X → aA_ H.length X.length X (.agg [.val (.slice none 0 0)]) (.agg (ad_.cells ⟨[]⟩)) := fun X m => gV_ m.len
 skip
 by_cases hlt : k < es.length
 ·have hnk := hn es[k] (getElem_mem hlt)
  have hzk : ab_.sz es[k] ≤ 1048576 := b6_ hz (getElem_mem hlt)
  have hrd : ∀ X, aa_ Tryz.prog 81 [.agg [.val (.int .i64 es[k].Kind), .val (.string es[k].Name), .list 0 1 (es[k].Subs.map am_), .val (.string es[k].Value), .val (.int .i64 es[k].N)]] X (.val (.bool (bF_ es[k]))) := fun X => iD_ es[k] X
  simp (disch := (first | omega | (simp only [ls_, la_, lc_, ln_]; first | done | omega))) only [go_sem, Nat.reduceEqDiff, Nat.reduceAdd, ↓reduceIte, t1, t7, hlt, ab_.cells]
  refine aa_.call (hrd _) ?_
  cases hr : bF_ es[k]
  case true =>
   have ht := tk_ hr
   have hAp : bK_ y es[k] = if bE_ (bn_ y es[k]) es[k] = true then (y, 0) else (⟨[]⟩, 5) := by rw [bK_, if_neg (by rw [ht]; simp)]
   have hag : aP_ Tryz.prog 83 [.agg (ad_.cells y), .agg [.val (.int .i64 es[k].Kind), .val (.string es[k].Name), .list 0 1 (es[k].Subs.map am_), .val (.string es[k].Value), .val (.int .i64 es[k].N)]] (.agg (ab_.cells (bn_ y es[k]))) (gK_ es[k]) := kj_ y es[k] (dd_ hy) hzk hy hnk hr
   have hse : ∀ X, aa_ Tryz.prog 82 [.agg (ab_.cells (bn_ y es[k])), .agg [.val (.int .i64 es[k].Kind), .val (.string es[k].Name), .list 0 1 (es[k].Subs.map am_), .val (.string es[k].Value), .val (.int .i64 es[k].N)]] X (.val (.bool (bE_ (bn_ y es[k]) es[k]))) := fun X => jV_ (bn_ y es[k]) es[k] (lL_ hy hnk hzk) X
   simp (disch := (first | omega | (simp only [ls_, la_, lc_, ln_]; first | done | omega))) only [go_sem, Nat.reduceEqDiff, Nat.reduceAdd, ↓reduceIte, t1, t2, t7, o0, ab_.cells]
   refine d0_ hag (a3_.cons hA (a3_.cons (bL_.same rfl) a3_.nil)) (fun av H1 m1 F1 q1 => ?_)
   obtain ⟨l, v, kk, rfl⟩ := q1
   have l1 := m1.len
   have p0 := m1.at o0
   have p1 := m1.at o1
   have hM1 : aJ_ H H1 := hM.trans m1
   skip
   simp (disch := (first | omega | (simp only [ls_, la_, lc_, ln_]; first | done | omega))) only [go_sem, Nat.reduceEqDiff, Nat.reduceAdd, ↓reduceIte, t1, t7, ab_.cells]
   refine aa_.call (aa_.anyR rfl hse (a3_.cons F1.tree.arg.any (a3_.cons (bL_.same rfl) a3_.nil))) ?_
   cases hq : bE_ (bn_ y es[k]) es[k]
   ·rw [hq] at hAp
    have hc : ¬ (bK_ y es[k]).2 = 0 := by rw [hAp]; simp
    rw [hS, h3_ hlt hc, hAp] at hk
    simp (disch := (first | omega | (simp only [ls_, la_, lc_, ln_]; first | done | omega))) only [aD_, go_sem, Nat.reduceEqDiff, ↓reduceIte, t4, t7, p1, bH_, Option.map_some, b7_]
    exact hk _ _ (hM1.set (by omega)) rfl (.inr (hnil _ (hM1.set (by omega))))
   ·rw [hq] at hAp
    have hc : (bK_ y es[k]).2 = 0 := by rw [hAp]; rfl
    have hA1 : (bK_ y es[k]).1 = y := by rw [hAp]; rfl
    simp (disch := (first | omega | (simp only [ls_, la_, lc_, ln_]; first | done | omega))) only [go_sem, Nat.reduceEqDiff, ↓reduceIte, t7]
    exact ⟨es.length - (k + 1), by omega, hJ _ _ _ ⟨k + 1, y, by simp [upd, t1], by simp [upd, t2], by simp [upd, t4], by simp [upd], hM1, p1, T.keep (fun z q1 q2 q3 => m1.kept z q2) l1, hy, by rw [hS, h8_ hlt hc, hA1], rfl, by omega⟩⟩
  case false =>
   have ht := u9_ hnk hr
   have hAp : bK_ y es[k] = b0_ y (dX_ es[k]) := by rw [bK_, if_pos ht]
   have htn : aP_ Tryz.prog 84 [.agg (ad_.cells y), .agg [.val (.int .i64 es[k].Kind), .val (.string es[k].Name), .list 0 1 (es[k].Subs.map am_), .val (.string es[k].Value), .val (.int .i64 es[k].N)]] (e6_ (bK_ y es[k])) h5_ := by
    rw [hAp]; exact kA_ y es[k] hy hnk ht hzk
   simp (disch := (first | omega | (simp only [ls_, la_, lc_, ln_]; first | done | omega))) only [go_sem, Nat.reduceEqDiff, Nat.reduceAdd, ↓reduceIte, t1, t2, t7, o0, ab_.cells]
   refine d0_ htn (a3_.cons hA (a3_.cons (bL_.same rfl) a3_.nil)) (fun av H1 m1 F1 q1 => ?_)
   obtain ⟨b, cb, v, rfl⟩ := q1
   obtain ⟨G, hv⟩ := F1.two
   simp only [AV.val.injEq, Value.int.injEq, true_and] at hv
   subst hv
   have l1 := m1.len
   have cb' := cb
   simp only [AV.cell, Value.oneCell'] at cb'
   have p0 := m1.at o0
   have p1 := m1.at o1
   have hM1 : aJ_ H H1 := hM.trans m1
   skip
   by_cases hc : (bK_ y es[k]).2 = 0
   ·simp (disch := (first | omega | (simp only [ls_, la_, lc_, ln_]; first | done | omega))) only [aw_, aQ_, go_sem, Nat.reduceEqDiff, Nat.reduceAdd, ↓reduceIte, t1, t2, t7, p0, cb', hc, ab_.cells]
    refine ⟨es.length - (k + 1), by omega, hJ _ _ _ ⟨k + 1, (bK_ y es[k]).1, by simp [upd, t1], by simp [upd, t2], by simp [upd, t4], by simp [upd], ?_, ?_, ?_, kR_ hy hnk, by rw [hS, h8_ hlt hc], rfl, by omega⟩⟩
    ·first | exact (hM1.add _).set (by omega) | exact ((hM1.add _).set (by omega)).set (by omega) | exact (hM1.set (by omega)).add _
    ·(repeat (first | rw [ar_ (by omega)] | rw [aw_ (by first | omega | (simp only [ls_, la_, lc_, ln_]; omega))])); exact p1
    ·refine ⟨b, ?_, cb, .inr ((G.tree.keep fun z q1 q2 => by (repeat (first | rw [ar_ (by omega)] | rw [aw_ (by first | omega | (simp only [ls_, la_, lc_, ln_]; omega))]))).widen (by omega) (by simp))⟩
     first | exact aD_ (by simp; omega) | (rw [ar_ (by omega)]; exact aD_ (by simp; omega)) | (rw [aw_ (by simp; omega)]; exact aD_ (by omega))
   ·have hc' : ((bK_ y es[k]).2 = 0) = False := eq_false hc
    rw [hS, h3_ hlt hc] at hk
    simp (disch := (first | omega | (simp only [ls_, la_, lc_, ln_]; first | done | omega))) only [aD_, aw_, aQ_, go_sem, Nat.reduceEqDiff, Nat.reduceAdd, ↓reduceIte, t1, t2, t4, t7, p0, p1, cb', hc', ab_.cells, bH_, Option.map_some, b7_]
    have hM2 : ∀ r : Row, aJ_ H (H1 ++ [r]) := fun r => hM1.add _
    refine hk _ _ ?_ rfl (.inr (hnil _ ?_))
    all_goals first | exact (hM2 _).set (by omega) | exact ((hM2 _).set (by omega)).set (by omega) | exact hM2 _
 ·rw [hS, ly_ (by omega)] at hk
  simp (disch := (first | omega | (simp only [ls_, la_, lc_, ln_]; first | done | omega))) only [aD_, go_sem, Nat.reduceEqDiff, ↓reduceIte, t1, t2, t4, t7, o0, o1, ca', hlt, b7_]
  refine hk _ _ (hM.set (by omega)) ca ?_
  rcases hF with q | q
  ·exact .inl q
  ·exact .inr ((q.keep fun z q1 q2 => ar_ (by omega)).widen (by omega) (by simp))
def c44 : LC :=
 .seq (.ops [.s 1 (.box 30 (.tmp 0)), .s 2 (.alloc 30 (.agg #[.slice none 0 0]))]) (.seq (.ops [.s 6 (.build (.agg #[.slice none 0 0]) [(0, 1)] []), .s 3 (.alloc 30 (.agg #[.slice none 0 0])), .st 1 3 6]) (.seq (.seq
 (.ops [.ki 4 0]) (.block 0 (.ghost (.loop (.seq (.seq (.ops [.m 7 4, .fa 8 0 1, .ln 9 8, .ll 10 9, .bb 11 .lss false 7 10]) (.cond (.tmp 11) .skip (.exit 0))) (.seq (.block 1 (.seq (.ops [.fa 14 0 1, .ln 15 14, .m 16 4,
 .ia 17 3 15 16, .ld 18 3 17, .s 5 (.alloc 112 (.agg #[.string ⟨#[]⟩, .slice none 0 0, .string ⟨#[]⟩])), .st 3 5 18]) (.seq (.ops [.fa 19 1 5, .ln 20 19, .c1 21 85 20, .fa 22 1 5, .st 1 22 21]) (.ops [.fa 23 0 3, .ln 24
 23, .ld 25 3 5, .s 26 (.buildSlice 112 3 (.agg #[.string ⟨#[]⟩, .slice none 0 0, .string ⟨#[]⟩]) 1 [(0, .tmp 25)]), .ap 27 112 3 56 24 26, .fa 28 0 3, .st 1 28 27])))) (.ops [.m 12 4, .bk 13 .add false 12 1, .m 4
 13]))))))) (.seq (.ops [.ld 29 1 3, .st 1 2 29]) .ret)))
def zs_ : LF := ⟨1, 30, c44, [.cell 2 (some 1)]⟩
theorem EA_ : at_ Tryz.prog Tryz.f44 zs_ := ai_
theorem kF_ (x : ad_) (hx : ad_.sz x ≤ 1048576) : aP_ Tryz.prog 44 [.agg (ad_.cells x)] (.agg (ad_.cells x)) (fun a => ∃ l, a = .agg [.own l x.Nodes.length]) := by
 refine bT_ mixed Tryz.func44 EA_ rfl (fun h0 => ?_)
 have hs := ad_.sz_Nodes hx
 have hl := ax_ hs
 have hm : ∀ e ∈ x.Nodes, ac_.sz e ≤ 1048576 := fun e he => by have := bD_ (f := ac_.sz) he; omega
 simp (disch := omega) only [zs_, c44, ad_.cells, bH_, Option.map_some, go_sem, Nat.reduceEqDiff, Nat.reduceAdd, ↓reduceIte]
 refine k6_ (h0 ++ [⟨30, 1, [[.list 0 3 (x.Nodes.map ac_.cells)]]⟩, ⟨30, 1, [[.val (.slice none 0 0)]]⟩, ⟨30, 1, [[.own (h0.length + 3) 0]]⟩, ⟨112, 3, []⟩]) (fun t => nR_ (h0 ++ [⟨30, 1, [[.list 0 3 (x.Nodes.map ac_.cells)]]⟩, ⟨30, 1, [[.val (.slice none 0 0)]]⟩]) [] (.ty 30) 1 [] [] 112 3 (h0.length + 3) (by simp) (by simp) (by simp)) ?_
 refine aL_ (fun n t h => ∃ (k : Nat) (done : List (List AV)), t 1 = .ptr h0.length 1 0 0 ∧ t 2 = .ptr (h0.length + 1) 1 0 0 ∧ t 3 = .ptr (h0.length + 2) 1 0 0 ∧ t 4 = .val (.int .i64 k) ∧ aJ_ h0 h ∧
  h[h0.length]? = some ⟨30, 1, [[.list 0 3 (x.Nodes.map ac_.cells)]]⟩ ∧ h[h0.length + 1]? = some ⟨30, 1, [[.val (.slice none 0 0)]]⟩ ∧ h[h0.length + 2]? = some ⟨30, 1, [[.own (h0.length + 3) k]]⟩ ∧
  cM_ (h0.length + 3) h 112 3 done ((x.Nodes.take k).map ac_.cells) ∧ done.length = k ∧ n = x.Nodes.length - k ∧ k ≤ x.Nodes.length) x.Nodes.length ?_ ?_
 ·exact ⟨0, [], rfl, rfl, rfl, rfl, aJ_.app _ _, by rw [cy_]; rfl, by rw [b8_]; rfl, by rw [b8_]; rfl, cM_.zero (by rw [b8_]; rfl), rfl, rfl, Nat.zero_le _⟩
 rintro J hJ n t h ⟨k, done, t1, t2, t3, t4, hM, o0, o1, o2, hG, hd, rfl, hk⟩
 have o3 := hG.row
 have ml := hM.len
 have gl := hG.lt
 by_cases hlt : k < x.Nodes.length
 ·have hsl := ax_ (ac_.sz_Subs (hm _ (getElem_mem hlt)))
  simp (disch := (first | omega | (simp only [ls_, la_, lc_, ln_]; first | done | omega))) only [aQ_, go_sem, Nat.reduceEqDiff, Nat.reduceAdd, ↓reduceIte, t1, t4, o0, hlt, ac_.cells]
  refine bJ_ (d1_ x.Nodes[k].Subs hsl) (fun av H1 m1 F1 q1 => ?_)
  obtain ⟨l, rfl⟩ := q1
  have l1 := m1.len
  simp only [la_, lc_, ln_] at l1
  have pN : H1[h.length]? = some ⟨112, 3, [[.val (.string x.Nodes[k].Name), .list 0 1 (x.Nodes[k].Subs.map am_), .val (.string x.Nodes[k].Value)]]⟩ := m1.at (by first | exact aQ_ rfl | exact aD_ (by simp))
  have keep : ∀ z, z < h.length → H1[z]? = h[z]? := fun z q => by
   rw [m1.kept z (by simp; omega)]; (repeat (first | rw [ar_ (by omega)] | rw [aw_ (by first | omega | (simp only [ls_, la_, lc_, ln_]; omega))]))
  have p0 := (keep _ (by omega)).trans o0
  have p1 := (keep _ (by omega)).trans o1
  have p2 := (keep _ (by omega)).trans o2
  have p3 := (keep _ (by omega)).trans o3
  simp (disch := (first | omega | (simp only [ls_, la_, lc_, ln_]; first | done | omega))) only [ar_, aD_, aw_, aQ_, ls_, go_sem, Nat.reduceEqDiff, Nat.reduceAdd, Nat.reduceLeDiff, ↓reduceIte, t3, t4, p2, p3, pN, hd]
  repeat (refine And.intro (by first | omega | (exact strs_cellv _) | assumption | (simp; done)) ?_)
  refine ⟨x.Nodes.length - (k + 1), by omega, hJ _ _ _ ⟨k + 1, done ++ [[.val (.string x.Nodes[k].Name), .own l x.Nodes[k].Subs.length, .val (.string x.Nodes[k].Value)]], by simp [upd, t1], by simp [upd, t2], by simp [upd, t3], by simp [upd], ?_, ?_, ?_, ?_, ?_, by simp [hd], rfl, by omega⟩⟩
  ·exact ⟨by simp; omega, fun z q => by (repeat (first | rw [ar_ (by omega)] | rw [aw_ (by first | omega | (simp only [ls_]; omega))])); rw [keep z (by omega)]; exact hM.kept z q⟩
  ·(repeat (first | rw [ar_ (by omega)] | rw [aw_ (by first | omega | (simp only [ls_]; omega))])); exact p0
  ·(repeat (first | rw [ar_ (by omega)] | rw [aw_ (by first | omega | (simp only [ls_]; omega))])); exact p1
  ·first | exact aD_ (by simp; omega) | ((repeat (first | rw [ar_ (by omega)] | rw [aw_ (by first | omega | (simp only [ls_, la_, lc_, ln_]; omega))])); exact aD_ (by simp; omega))
  ·rw [take_succ_eq_append_getElem hlt, map_append]
   refine hG.step (H1 := H1.set h.length ⟨112, 3, [[.val (.string x.Nodes[k].Name), .own l x.Nodes[k].Subs.length, .val (.string x.Nodes[k].Value)]]⟩) ((ap_.val _ (ap_.cons (F1.tree.keep fun y q1 q2 => ar_ (by simp at q1; omega)) (ap_.val _ (ap_.nil _ _ _)) ⟨by simp; omega, Nat.le_refl _⟩)).widen (by simp) (by simp)) (by simp; omega) (fun y q1 q2 => by rw [ar_ (by omega)]; exact keep y q2) (by simp) (fun y q1 q2 => by simp only [ls_] at q2; (repeat (first | rw [ar_ (by omega)] | rw [aw_ (by first | omega | (simp only [ls_]; omega))])); try rfl) ?_
   first | exact aD_ (by simp; omega) | ((repeat (first | rw [ar_ (by omega)] | rw [aw_ (by first | omega | (simp only [ls_, la_, lc_, ln_]; omega))])); exact aD_ (by simp; omega))
 ·simp (disch := (first | omega | (simp only [ls_, la_, lc_, ln_]; first | done | omega))) only [aD_, go_sem, Nat.reduceEqDiff, ↓reduceIte, t1, t2, t3, t4, o0, o1, o2, hlt]
  have e : k = x.Nodes.length := by omega
  subst e
  rw [take_length] at hG
  have g2 := hG.more (H' := h.set (h0.length + 1) ⟨30, 1, [[.own (h0.length + 3) x.Nodes.length]]⟩) (by simp) (fun y q1 q2 => by rw [getElem?_set_ne (by omega)])
  exact ⟨⟨hM.set (by omega), (aA_.agg (ap_.cons (g2.done hd) (ap_.nil _ _ _) ⟨Nat.le_of_lt g2.lt, Nat.le_refl _⟩)).widen (by omega) (Nat.le_refl _)⟩, _, rfl⟩
theorem vd_ {H X : List Row} {b : AV} {x y : ad_} (h : (b = .list 0 3 (x.Nodes.map ac_.cells) ∧ y = x) ∨ aA_ H.length X.length X (.agg [b]) (.agg (ad_.cells y))) {X' : List Row} (m : ∀ z, H.length ≤ z → z < X.length → X'[z]? = X[z]?) : bL_ X' (.agg [b]) (.agg (ad_.cells y)) := by
 rcases h with ⟨rfl, rfl⟩ | q
 ·exact bL_.same rfl
 ·exact (q.keep fun z q1 q2 => m z q1 q2).arg.any
def c59 : LC :=
 .seq (.ops [.s 2 (.box 30 (.tmp 0)), .s 4 (.alloc 30 (.agg #[.slice none 0 0])), .ki 5 0, .ki 6 0]) (.seq (.seq (.ops [.ki 7 0]) (.block 0 (.loop (.seq (.seq (.ops [.m 11 7, .m 12 1, .ll 13 12, .bb 14 .lss false 11 13])
 (.cond (.tmp 14) .skip (.exit 0))) (.seq (.block 1 (.seq (.gops [.ld 18 1 2, .m 19 1, .m 20 7, .ia 21 2 19 20, .fa 22 1 21, .ln 23 22] [(.c2 24 43 18 23, []), (.m 17 24, []), (.ex 25 17 0, []), (.ex 26 17 1, []), (.ex 27
 17 2, []), (.s 8 (.alloc 30 (.agg #[.slice none 0 0])), [.ld 18 1 2, .m 19 1, .m 20 7, .ia 21 2 19 20, .fa 22 1 21, .ln 23 22]), (.st 1 8 25, []), (.m 9 26, []), (.m 10 27, [])]) (.seq (.seq (.ops [.m 28 10, .bk 29 .neq
 false 28 0]) (.cond (.tmp 29) (.seq (.ops [.s 30 (.build (.agg #[.slice none 0 0]) [(0, 1)] []), .m 31 7, .m 32 10, .st 1 4 30, .m 5 31, .m 6 32]) .ret) .skip)) (.ops [.ld 33 1 8, .st 1 2 33])))) (.ops [.m 15 7, .bk 16
 .add false 15 1, .m 7 16])))))) (.seq (.ops [.ld 34 1 2, .st 1 4 34, .ki 5 0, .ki 6 0]) .ret))
def CN_ : LF := ⟨2, 35, c59, [.cell 4 (some 1), .tmp 5, .tmp 6]⟩
theorem DF_ : at_ Tryz.prog Tryz.f59 CN_ := ai_
theorem lp_ {H : List Row} (x : ad_) (bs : List ah_) (hx : aH_ x = true) (hn : cn_ bs = true) (hz : ao_ ah_.sz bs ≤ 1048576) {K : AV → List Row → Prop}
 (hk : ∀ (b : AV) (H' : List Row), aJ_ H H' → b.cell = true → ((b = .list 0 3 (x.Nodes.map ac_.cells) ∧ (cz_ x bs 0).1 = x) ∨ aA_ H.length H'.length H' (.agg [b]) (.agg (ad_.cells (cz_ x bs 0).1))) → K (.tup [.agg [b], .val (.int .i64 (cz_ x bs 0).2.1), .val (.int .i64 (cz_ x bs 0).2.2)]) H') :
 callSem Tryz.prog 59 [.agg [.list 0 3 (x.Nodes.map ac_.cells)], .list 0 2 (bs.map ah_.cells)] H K := by
 refine bd_ mixed Tryz.func59 DF_ (cb_ rfl ?_)
 have hl := ax_ hz
 simp (disch := (first | omega | (simp only [ls_, la_, lc_, ln_]; first | done | omega))) only [go_sem, ↓reduceIte, CN_, c59]
 refine aL_ (fun n t h => ∃ (k : Nat) (y : ad_), t 1 = .list 0 2 (bs.map ah_.cells) ∧ t 2 = .ptr H.length 1 0 0 ∧ t 4 = .ptr (H.length + 1) 1 0 0 ∧ t 7 = .val (.int .i64 k) ∧ aJ_ H h ∧ h[H.length + 1]? = some ⟨30, 1, [[.val (.slice none 0 0)]]⟩ ∧
  jI_ H.length (.list 0 3 (x.Nodes.map ac_.cells)) x h y ∧ aH_ y = true ∧ cz_ x bs 0 = cz_ y (bs.drop k) k ∧ n = bs.length - k ∧ k ≤ bs.length) bs.length ⟨0, x, rfl, rfl, rfl, rfl, aJ_.app _ _, by rw [b8_]; rfl, ⟨_, by rw [cy_]; rfl, rfl, .inl ⟨rfl, rfl⟩⟩, hx, rfl, rfl, Nat.zero_le _⟩ ?_
 rintro J hJ n t h ⟨k, y, t1, t2, t4, t7, hM, o1, T, hy, hS, rfl, hk'⟩
 have ml := hM.len
 have hlL := T.lt
 obtain ⟨a, o0, ca, hF⟩ := id T
 have hol := (List.getElem?_eq_some_iff.1 o1).1
 have ca' := ca
 simp only [AV.cell, Value.oneCell'] at ca'
 have hA : ∀ X, aJ_ h X → bL_ X (.agg [a]) (.agg (ad_.cells y)) := fun X m => by
  rcases hF with ⟨rfl, rfl⟩ | q
  ·exact bL_.same rfl
  ·exact (q.keep fun z _ q2 => m.kept z q2).arg.any
 by_cases hlt : k < bs.length
 ·have hbk := (q4_ hn).2 bs[k] (getElem_mem hlt)
  have hnk := rd_ hbk
  have hzk : ao_ ab_.sz bs[k].Events ≤ 1048576 := ah_.sz_Events (b6_ hz (getElem_mem hlt))
  have hrr := rV_ hy hnk
  simp (disch := (first | omega | (simp only [ls_, la_, lc_, ln_]; first | done | omega))) only [go_sem, Nat.reduceEqDiff, Nat.reduceAdd, Nat.reduceLeDiff, ↓reduceIte, t1, t2, t7, o0, hlt, ah_.cells]
  refine me_ y bs[k].Events ca hA hy (kz_ hnk).2 hzk (fun b H1 m1 cb hb => ?_)
  rw [← hrr] at hb ⊢
  have l1 := m1.len
  have cb' := cb
  simp only [AV.cell, Value.oneCell'] at cb'
  have p0 := m1.at o0
  have p1 := m1.at o1
  have hM1 : aJ_ H H1 := hM.trans m1
  by_cases hc : (bI_ y bs[k].Events).2.2 = 0
  ·simp (disch := (first | omega | (simp only [ls_, la_, lc_, ln_]; first | done | omega))) only [aw_, aQ_, go_sem, Nat.reduceEqDiff, Nat.reduceAdd, Nat.reduceLeDiff, ↓reduceIte, t1, t2, t7, p0, cb', hc, ah_.cells]
   refine ⟨bs.length - (k + 1), by omega, hJ _ _ _ ⟨k + 1, (bI_ y bs[k].Events).1, by simp [upd, t1], by simp [upd, t2], by simp [upd, t4], by simp [upd], ?_, ?_, ?_, jq_ hy, by rw [hS, lB_ hlt hc], rfl, by omega⟩⟩
   ·first | exact (hM1.add _).set (by omega) | exact ((hM1.add _).set (by omega)).set (by omega) | exact (hM1.set (by omega)).add _
   ·(repeat (first | rw [ar_ (by omega)] | rw [aw_ (by first | omega | (simp only [ls_, la_, lc_, ln_]; omega))])); exact p1
   ·have hnew : ∀ X : List Row, H1.length ≤ X.length → (∀ z, H.length + 2 ≤ z → z < H1.length → X[z]? = H1[z]?) → (b = .list 0 3 (x.Nodes.map ac_.cells) ∧ (bI_ y bs[k].Events).1 = x) ∨ aA_ (H.length + 2) X.length X (.agg [b]) (.agg (ad_.cells (bI_ y bs[k].Events).1)) := fun X hl2 hX => by
     rcases hb with ⟨rfl, e⟩ | q
     ·rcases hF with ⟨rfl, rfl⟩ | q2
      ·exact .inl ⟨rfl, e⟩
      ·rw [e]
       exact .inr ((q2.keep fun z g1 g2 => by rw [hX z g1 (by omega)]; exact m1.kept z g2).widen (Nat.le_refl _) (by omega))
     ·exact .inr ((q.keep fun z g1 g2 => hX z (by omega) g2).widen (by omega) hl2)
    refine ⟨b, ?_, cb, hnew _ (by simp) (fun z q1 q2 => by (repeat (first | rw [ar_ (by omega)] | rw [aw_ (by first | omega | (simp only [ls_, la_, lc_, ln_]; omega))])))⟩
    first | exact aD_ (by simp; omega) | (rw [ar_ (by omega)]; exact aD_ (by simp; omega)) | (rw [aw_ (by simp; omega)]; exact aD_ (by omega))
  ·have hc' : ((bI_ y bs[k].Events).2.2 = 0) = False := eq_false hc
   rw [hS, lx_ hlt hc] at hk
   simp (disch := (first | omega | (simp only [ls_, la_, lc_, ln_]; first | done | omega))) only [aD_, aw_, aQ_, go_sem, Nat.reduceEqDiff, Nat.reduceAdd, Nat.reduceLeDiff, ↓reduceIte, t1, t2, t4, t7, p0, p1, cb', hc', ah_.cells, bH_, Option.map_some, b7_]
   have hM2 : ∀ r : Row, aJ_ H (H1 ++ [r]) := fun r => hM1.add _
   refine hk _ _ ?_ rfl (.inr (gV_ ?_))
   ·first | exact (hM2 _).set (by omega) | exact ((hM2 _).set (by omega)).set (by omega) | exact hM2 _
   ·simp; omega
 ·rw [hS, ms_ (by omega)] at hk
  simp (disch := (first | omega | (simp only [ls_, la_, lc_, ln_]; first | done | omega))) only [aD_, go_sem, Nat.reduceEqDiff, ↓reduceIte, t1, t2, t4, t7, o0, o1, ca', hlt, b7_]
  refine hk _ _ (hM.set (by omega)) ca ?_
  rcases hF with q | q
  ·exact .inl q
  ·exact .inr ((q.keep fun z q1 q2 => ar_ (by omega)).widen (by omega) (by simp))
def c20 : LC :=
 .seq (.ops [.s 2 (.box 30 (.tmp 0)), .s 4 (.alloc 30 (.agg #[.slice none 0 0])), .ki 5 0, .ki 6 0]) (.seq (.seq (.ops [.ld 10 1 2, .c1 11 41 10, .nt 12 11, .m 13 12, .g 14 13 false (.mov (.tmp 1)), .g 15 13 false (.call
 58 [.tmp 14]), .g 16 13 false (.un .not (.tmp 15)), .pt 17 13 16]) (.cond (.tmp 17) (.seq (.ops [.s 18 (.build (.agg #[.slice none 0 0]) [(0, 1)] []), .st 1 4 18, .ki 5 0, .ki 6 1]) .ret) .skip)) (.seq (.ops [.ld 20 1 2,
 .m 21 1, .c2 22 59 20 21, .m 19 22, .ex 23 19 0, .ex 24 19 1, .ex 25 19 2, .s 7 (.alloc 30 (.agg #[.slice none 0 0])), .st 1 7 23, .m 8 24, .m 9 25]) (.seq (.ops [.ld 26 1 7, .c1 27 44 26, .m 28 8, .m 29 9, .st 1 4 27,
 .m 5 28, .m 6 29]) .ret)))
def AY_ : LF := ⟨2, 30, c20, [.cell 4 (some 1), .tmp 5, .tmp 6]⟩
theorem Es_ : at_ Tryz.prog Tryz.f20 AY_ := ai_
theorem js_ (x : ad_) (bs : List ah_) (hx : ad_.sz x ≤ 1048576) (he : ao_ ah_.sz bs ≤ 1048576) : aP_ Tryz.prog 20 [.agg (ad_.cells x), .list 0 2 (bs.map ah_.cells)] (i8_ (bz_ x bs)) po_ := by
 refine bT_ mixed Tryz.func20 Es_ rfl (fun h0 => ?_)
 have htr : ∀ H, aa_ Tryz.prog 41 [.agg [.list 0 3 (x.Nodes.map ac_.cells)]] H (.val (.bool (aH_ x))) := fun H => cL_ x hx H
 have hno : ∀ H, aa_ Tryz.prog 58 [.list 0 2 (bs.map ah_.cells)] H (.val (.bool (cn_ bs))) := fun H => oC_ bs he H
 simp (disch := (first | omega | (simp only [ls_, la_, lc_, ln_]; first | done | omega))) only [aQ_, go_sem, Nat.reduceEqDiff, ↓reduceIte, AY_, c20, ad_.cells]
 refine aa_.call (htr _) ?_
 by_cases q1 : aH_ x = true
 case neg =>
  have q1' : aH_ x = false := by simpa using q1
  have hR : bz_ x bs = (⟨[]⟩, 0, 1) := by simp [bz_, q1']
  simp (disch := (first | omega | (simp only [ls_, la_, lc_, ln_]; first | done | omega))) only [cB_, go_sem, Nat.reduceEqDiff, ↓reduceIte, q1', bH_, Option.map_some, b7_]
  rw [hR]
  exact ⟨⟨by first | exact aJ_.app _ _ | exact (aJ_.app _ _).set (by omega), gG_ (gV_ (by simp)) (by simp) _ _⟩, _, rfl, _, _, rfl⟩
 simp (disch := (first | omega | (simp only [ls_, la_, lc_, ln_]; first | done | omega))) only [go_sem, Nat.reduceEqDiff, ↓reduceIte, q1]
 refine aa_.call (hno _) ?_
 by_cases q2 : cn_ bs = true
 case neg =>
  have q2' : cn_ bs = false := by simpa using q2
  have hR : bz_ x bs = (⟨[]⟩, 0, 1) := by simp [bz_, q2']
  simp (disch := (first | omega | (simp only [ls_, la_, lc_, ln_]; first | done | omega))) only [cB_, go_sem, Nat.reduceEqDiff, ↓reduceIte, q2', bH_, Option.map_some, b7_]
  rw [hR]
  exact ⟨⟨by first | exact aJ_.app _ _ | exact (aJ_.app _ _).set (by omega), gG_ (gV_ (by simp)) (by simp) _ _⟩, _, rfl, _, _, rfl⟩
 have hR : bz_ x bs = cz_ x bs 0 := by simp [bz_, q1, q2]
 have hz : ad_.sz (cz_ x bs 0).1 ≤ 1048576 := by rw [← hR]; exact ot_ x bs
 rw [hR]
 simp (disch := (first | omega | (simp only [ls_, la_, lc_, ln_]; first | done | omega))) only [aQ_, go_sem, Nat.reduceEqDiff, ↓reduceIte, q2]
 refine lp_ x bs q1 q2 he (fun b H1 m1 cb hb => ?_)
 have l1 := m1.len
 have cb' := cb
 simp only [AV.cell, Value.oneCell'] at cb'
 have p1 := m1.at (i := h0.length + 1) (by rw [b8_]; rfl)
 simp (disch := (first | omega | (simp only [ls_, la_, lc_, ln_]; first | done | omega))) only [aQ_, go_sem, Nat.reduceEqDiff, ↓reduceIte, cb']
 refine d0_ (kF_ _ hz) (a3_.cons (vd_ hb fun z q1 q2 => by (repeat (first | rw [ar_ (by omega)] | rw [aw_ (by first | omega | (simp only [ls_, la_, lc_, ln_]; omega))]))) a3_.nil) (fun av H2 m2 F2 q3 => ?_)
 obtain ⟨l, rfl⟩ := q3
 have l2 := m2.len
 simp only [la_, lc_, ln_] at l1 l2
 have p2 : H2[h0.length + 1]? = some ⟨30, 1, [[.val (.slice none 0 0)]]⟩ := m2.at (by (repeat (first | rw [ar_ (by omega)] | rw [aw_ (by first | omega | (simp only [ls_, la_, lc_, ln_]; omega))])); exact p1)
 have hM2 : aJ_ h0 H2 := ⟨by omega, fun z q => by
  rw [m2.kept z (by simp; omega)]; (repeat (first | rw [ar_ (by omega)] | rw [aw_ (by first | omega | (simp only [ls_, la_, lc_, ln_]; omega))]))
  rw [m1.kept z (by simp; omega)]; (repeat (first | rw [ar_ (by omega)] | rw [aw_ (by first | omega | (simp only [ls_, la_, lc_, ln_]; omega))]))⟩
 simp (disch := (first | omega | (simp only [ls_, la_, lc_, ln_]; first | done | omega))) only [aD_, go_sem, Nat.reduceEqDiff, ↓reduceIte, p2, b7_]
 exact ⟨⟨hM2.set (by omega), gG_ ((F2.tree.keep fun z q _ => ar_ (by simp at q; omega)).widen (by simp; omega) (by simp)) (by simp; omega) _ _⟩, _, rfl, _, _, rfl⟩
theorem hy_ (x : ad_) (bs : List ah_) (hx : ad_.sz x ≤ 1048576) (he : ao_ ah_.sz bs ≤ 1048576) (h : List Row) : aa_ Tryz.prog 20 [.agg (ad_.cells x), .list 0 2 (bs.map ah_.cells)] h (i8_ (bz_ x bs)) := (js_ x bs hx he).pure rfl h
end Go.Proofs.YtfplhbjggecnpaaGreatDoor
