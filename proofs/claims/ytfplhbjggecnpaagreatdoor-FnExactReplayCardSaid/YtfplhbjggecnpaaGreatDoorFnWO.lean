/-
 Contracts of functions of this program, over abstract values. Conditions: as each theorem says.
-/
import Derived.Test.YtfplhbjggecnpaaGreatDoorFnWC
namespace Go.Proofs.YtfplhbjggecnpaaGreatDoor
open Go.AW
set_option linter.unusedVariables false
set_option linter.unusedSimpArgs false
set_option maxRecDepth 4000
theorem pH_ {x : ad_} {c : aW_} (h : c.Kind = 1) : (bT_ x c).2 = dk_ x c.Name c.Subs ∧ (dk_ x c.Name c.Subs = 0 → (bT_ x c).1 = ⟨dB_ x.Nodes c.Name c.Subs c.Value⟩) := by
 unfold bT_ dk_
 rw [if_pos h]
 split
 ·exact ⟨rfl, fun _ => rfl⟩
 ·exact ⟨rfl, fun q => by cases q⟩
def c95 : LC :=
 .seq (.ops [.s 3 (.box 126 (.tmp 1)), .ki 4 0]) (.seq (.seq (.ops [.fa 5 0 3, .ln 6 5, .bk 7 .eql false 6 1]) (.cond (.tmp 7) (.seq (.ops [.m 8 0, .fa 9 1 3, .ln 10 9, .fa 11 2 3, .ln 12 11, .fa 13 3 3, .ln 14 13, .s 15
 (.call 145 [.tmp 8, .tmp 10, .tmp 12, .tmp 14]), .m 4 15]) .ret) .skip)) (.seq (.ops [.m 16 0, .fa 17 1 3, .ln 18 17, .fa 19 2 3, .ln 20 19, .c3 21 146 16 18 20]) (.seq (.ops [.ki 4 0]) .ret)))
def uE_ : LF := ⟨2, 22, c95, [.tmp 4]⟩
theorem Dd_ : at_ Tryz.prog Tryz.f95 uE_ := ah_
theorem i0_ {L lo : Nat} {H0 H : List Row} {x : ad_} {sa : AV} (B : dZ_ L lo H0 x) (mH : aJ_ H0 H) (c : aW_) (hx : aK_ x = true) (hs : au_ ByteArray.size c.Subs ≤ 1048576) (hsh : sa = .list 0 1 (c.Subs.map aj_) ∨ ∃ ls k, sa = .own ls k) (hsa : ∀ H' : List Row, (∀ y, H0.length ≤ y → y < H.length → H'[y]? = H[y]?) → b5_ H' sa (.list 0 1 (c.Subs.map aj_))) {K : AV → List Row → Prop}
 (hk : ∀ H' : List Row, H.length ≤ H'.length → (∀ y, y < lo → H'[y]? = H[y]?) → ((bT_ x c).2 = 0 → dZ_ L lo H' (bT_ x c).1) → K (.val (.int .i64 (bT_ x c).2)) H') :
 callSem Tryz.prog 95 [.ptr L 1 0 0, .agg [.val (.int .i64 c.Kind), .val (.string c.Name), sa, .val (.string c.Value)]] H K := by
 refine bk_ mixed Tryz.func95 Dd_ (ck_ rfl ?_)
 have hlow := B.low
 have mlen := mH.len
 have csa : sa.cell = true := by rcases hsh with rfl | ⟨_, _, rfl⟩ <;> rfl
 have csa' := csa
 simp only [AV.cell, Value.oneCell'] at csa'
 have hsa' : ∀ r : Row, ∀ H' : List Row, (∀ y, H0.length ≤ y → y < (H ++ [r]).length → H'[y]? = (H ++ [r])[y]?) → b5_ H' sa (.list 0 1 (c.Subs.map aj_)) := fun r H' h => hsa H' fun y q1 q2 => by rw [h y q1 (by simp; omega)]; exact aA_ q2
 by_cases hk1 : c.Kind = 1
 ·have hk1' : (c.Kind = 1) = True := eq_true hk1
  obtain ⟨e1, e2⟩ := pH_ (x := x) hk1
  rw [e1] at hk
  simp (disch := (first | omega | (simp only [ls_, la_, lc_, ln_]; first | done | omega))) only [aP_, go_sem, Nat.reduceEqDiff, Nat.reduceAdd, reduceCtorEq, ↓reduceIte, uE_, c95, csa', hk1']
  refine k0_ B (mH.add _) c.Name c.Subs c.Value hx hs (hsa' _) (fun H' k1 k2 k3 => ?_)
  simp (disch := (first | omega | (simp only [ls_, la_, lc_, ln_]; first | done | omega))) only [go_sem, ↓reduceIte]
  exact hk H' (by simp at k1; omega) (fun y q => by rw [k2 y q]; exact aA_ (by omega)) (fun q => by rw [e2 q]; exact k3 q)
 ·have hk1' : (c.Kind = 1) = False := eq_false hk1
  have e1 : bT_ x c = (⟨cJ_ x.Nodes c.Name c.Subs⟩, 0) := by rw [bT_, if_neg hk1]
  rw [e1] at hk
  simp (disch := (first | omega | (simp only [ls_, la_, lc_, ln_]; first | done | omega))) only [aP_, go_sem, Nat.reduceEqDiff, Nat.reduceAdd, reduceCtorEq, ↓reduceIte, uE_, c95, csa', hk1']
  obtain ⟨l, m, ts, b0, d⟩ := B
  have hl0 := b0.at'.lt
  have hr : ∀ r : Row, (H ++ [r]).length = H.length + 1 := fun r => by simp
  have b := fun r : Row => b0.more (mH.add [r])
  obtain ⟨a, o, hS⟩ := (b _).box
  have hlo := (b0.at'.lows l List.mem_cons_self).1
  refine j3_ (lo := lo) (l := L) (N := 1) (k := 0) (off := 0) (pre := []) (post := []) (es := [[a]]) (a := a) c.Name c.Subs hsh (fun H' hH => hsa' _ H' fun y q1 q2 => hH y q2 (by omega)) (ad_.sz_Nodes (c7_ hx)) o rfl rfl rfl hS (b _).at' b0.out d (fun H' m' us' k1 k2 k3 k4 k5 k6 k7 => ?_)
  simp (disch := (first | omega | (simp only [ls_, la_, lc_, ln_]; first | done | omega))) only [go_sem, ↓reduceIte]
  exact hk H' (by simp at k1; omega) (fun y q => by rw [k2 y (by simp; omega) (by omega) (by omega)]; exact aA_ (by omega)) (fun _ => ⟨l, m', us', ⟨⟨_, k7, .inl rfl⟩, k3, fun q => b0.out (k5 L q), b0.lt⟩, k6⟩)
def c50 : LC :=
 .seq (.ops [.s 3 (.box 79 (.tmp 1)), .ki 4 0]) (.seq (.seq (.ops [.ld 5 5 3, .c1 6 94 5]) (.cond (.tmp 6) (.seq (.ops [.m 7 0, .ld 8 5 3, .c1 9 96 8, .c2 10 95 7 9, .m 4 10]) .ret) .skip)) (.seq (.seq (.gops [.m 11 0,
 .nc 12 11, .ld 13 1 12, .ld 14 5 3, .ld 16 5 3] [(.c2 15 98 13 14, [.ld 16 5 3]), (.c2 17 97 15 16, []), (.nt 18 17, [])]) (.cond (.tmp 18) (.seq (.ops [.ki 4 5]) .ret) .skip)) (.seq (.ops [.ki 4 0]) .ret)))
def zZ_ : LF := ⟨2, 19, c50, [.tmp 4]⟩
theorem Cq_ : at_ Tryz.prog Tryz.f50 zZ_ := qV_
theorem jU_ {L lo : Nat} {H : List Row} {x : ad_} (B : dZ_ L lo H x) (e : ab_) (hx : aK_ x = true) (hn : bv_ e = true) (hz : ab_.sz e ≤ 1048576) {K : AV → List Row → Prop}
 (hk : ∀ H' : List Row, H.length ≤ H'.length → (∀ y, y < lo → H'[y]? = H[y]?) → ((bE_ x e).2 = 0 → dZ_ L lo H' (bE_ x e).1) → K (.val (.int .i64 (bE_ x e).2)) H') :
 callSem Tryz.prog 50 [.ptr L 1 0 0, .agg (ab_.cells e)] H K := by
 refine bk_ mixed Tryz.func50 Cq_ (ck_ rfl ?_)
 have hlow := B.low
 have htu : ∀ H, aa_ Tryz.prog 94 [.agg [.val (.int .i64 e.Kind), .val (.string e.Name), .list 0 1 (e.Subs.map aj_), .val (.string e.Value), .val (.int .i64 e.N)]] H (.val (.bool (b2_ e))) := fun H => ma_ e H
 simp (disch := (first | omega | (simp only [ls_, la_, lc_, ln_]; first | done | omega))) only [aP_, go_sem, Nat.reduceEqDiff, Nat.reduceAdd, ↓reduceIte, zZ_, c50, ab_.cells]
 refine aa_.call (htu _) ?_
 cases ht : b2_ e
 case true =>
  have hA : bE_ x e = bT_ x (dL_ e) := by rw [bE_, if_pos ht]
  rw [hA] at hk
  have hch : aL_ Tryz.prog 96 [.agg [.val (.int .i64 e.Kind), .val (.string e.Name), .list 0 1 (e.Subs.map aj_), .val (.string e.Value), .val (.int .i64 e.N)]] (.agg (aW_.cells (dL_ e))) (fun a => ∃ l, a = .agg [.val (.int .i64 (dL_ e).Kind), .val (.string e.Name), .own l e.Subs.length, .val (.string e.Value)]) := jQ_ e hz
  simp (disch := (first | omega | (simp only [ls_, la_, lc_, ln_]; first | done | omega))) only [aP_, go_sem, Nat.reduceEqDiff, Nat.reduceAdd, reduceCtorEq, ↓reduceIte]
  refine bD_ hch (fun av H1 m1 F1 q1 => ?_)
  obtain ⟨l, rfl⟩ := q1
  have l1 := m1.len
  simp only [la_, lc_, ln_] at l1
  have F2 := F1.tree.unagg.rest.rest.head
  simp (disch := (first | omega | (simp only [ls_, la_, lc_, ln_]; first | done | omega))) only [go_sem, Nat.reduceEqDiff, ↓reduceIte]
  refine i0_ B ((aJ_.app H _).trans m1) (dL_ e) hx (ab_.sz_Subs hz) (.inr ⟨l, _, rfl⟩) (fun H' h => (F2.keep fun y q1 q2 => h y (by simp at q1; omega) q2).arg) (fun H' k1 k2 k3 => ?_)
  simp (disch := (first | omega | (simp only [ls_, la_, lc_, ln_]; first | done | omega))) only [go_sem, ↓reduceIte]
  refine hk H' (by omega) (fun y q => ?_) k3
  rw [k2 y q, m1.kept y (by simp; omega)]; exact aA_ (by omega)
 case false =>
  obtain ⟨a, o, ca, hF⟩ := B.arg
  have hr := o7_ hn ht
  have hA : bE_ x e = if bA_ (bm_ x e) e = true then (x, 0) else (⟨[]⟩, 5) := by rw [bE_, if_neg (by rw [ht]; simp)]
  have hag : aL_ Tryz.prog 98 [.agg (ad_.cells x), .agg [.val (.int .i64 e.Kind), .val (.string e.Name), .list 0 1 (e.Subs.map aj_), .val (.string e.Value), .val (.int .i64 e.N)]] (.agg (ab_.cells (bm_ x e))) (go_ e) := iJ_ x e (c7_ hx) hz hx hn hr
  have hse : ∀ H, aa_ Tryz.prog 97 [.agg (ab_.cells (bm_ x e)), .agg [.val (.int .i64 e.Kind), .val (.string e.Name), .list 0 1 (e.Subs.map aj_), .val (.string e.Value), .val (.int .i64 e.N)]] H (.val (.bool (bA_ (bm_ x e) e))) := fun H => kX_ (bm_ x e) e (k2_ hx hn hz) H
  simp (disch := (first | omega | (simp only [ls_, la_, lc_, ln_]; first | done | omega))) only [aA_, aP_, go_sem, Nat.reduceEqDiff, Nat.reduceAdd, reduceCtorEq, ↓reduceIte, o]
  refine ev_ hag (a5_.cons (hF.keep fun y _ q => aA_ q).arg.any (a5_.cons (bU_.same rfl) a5_.nil)) (fun av H1 m1 F1 q1 => ?_)
  obtain ⟨l, v, k, rfl⟩ := q1
  have l1 := m1.len
  simp only [la_, lc_, ln_] at l1
  have o1 := m1.at (kP_ H _)
  have B1 := B.more ((aJ_.app H _).trans m1)
  simp (disch := (first | omega | (simp only [ls_, la_, lc_, ln_]; first | done | omega))) only [go_sem, Nat.reduceEqDiff, Nat.reduceAdd, ↓reduceIte, o1]
  refine aa_.call (aa_.anyR rfl hse (a5_.cons F1.tree.arg.any (a5_.cons (bU_.same rfl) a5_.nil))) ?_
  cases hq : bA_ (bm_ x e) e
  ·rw [hA, if_neg (by rw [hq]; simp)] at hk
   simp (disch := (first | omega | (simp only [ls_, la_, lc_, ln_]; first | done | omega))) only [go_sem, ↓reduceIte]
   exact hk H1 (by omega) (fun y q => by rw [m1.kept y (by simp; omega)]; exact aA_ (by omega)) (fun q => by cases q)
  ·rw [hA, if_pos hq] at hk
   simp (disch := (first | omega | (simp only [ls_, la_, lc_, ln_]; first | done | omega))) only [go_sem, ↓reduceIte]
   exact hk H1 (by omega) (fun y q => by rw [m1.kept y (by simp; omega)]; exact aA_ (by omega)) (fun _ => B1)
theorem c4_ {t : Nat → AV} {h : List Row} (a s u : Nat) (n : Option Nat) (K : AV → List Row → Prop) : cF_ [.cell a n, .tmp s, .tmp u] K .ret t h = match aq_ t h (.load n (.tmp a)) with | some av => K (.tup [av, t s, t u]) h | none => False := by
 simp only [cF_, dH_, List.mapM_cons, List.mapM_nil]
 cases aq_ t h (.load n (.tmp a)) <;> simp [cX_]
abbrev kQ_ (p : ad_ × Int × Int) : AV := .tup [.agg (ad_.cells p.1), .val (.int .i64 p.2.1), .val (.int .i64 p.2.2)]
def s2_ (a : AV) : Prop := ∃ b, b.cell = true ∧ ∃ v v2, a = .tup [.agg [b], .val (.int .i64 v), .val (.int .i64 v2)]
abbrev e4_ (p : ad_ × Int) : AV := .tup [.agg (ad_.cells p.1), .val (.int .i64 p.2)]
def hH_ (a : AV) : Prop := ∃ b, b.cell = true ∧ ∃ v, a = .tup [.agg [b], .val (.int .i64 v)]
section
variable {lo hi : Nat} {H : List Row} {b : AV} {x : ad_}
theorem ju_ (hF : ax_ lo hi H (.agg [b]) (.agg (ad_.cells x))) (h : lo ≤ hi) (v v2 : Int) : ax_ lo hi H (.tup [.agg [b], .val (.int .i64 v), .val (.int .i64 v2)]) (kQ_ (x, v, v2)) :=
 ax_.tup (al_.cons hF (al_.val _ (al_.val _ (al_.nil _ _ _))) ⟨h, Nat.le_refl _⟩)
theorem hg_ (hF : ax_ lo hi H (.agg [b]) (.agg (ad_.cells x))) (h : lo ≤ hi) (v : Int) : ax_ lo hi H (.tup [.agg [b], .val (.int .i64 v)]) (e4_ (x, v)) :=
 ax_.tup (al_.cons hF (al_.val _ (al_.nil _ _ _)) ⟨h, Nat.le_refl _⟩)
theorem jB_ (h : lo ≤ hi) : ax_ lo hi H (.agg [.val (.slice none 0 0)]) (.agg (ad_.cells ⟨[]⟩)) := (ax_.agg (al_.cons (ax_.mknil lo lo H 3) (al_.nil _ _ _) ⟨Nat.le_refl _, Nat.le_refl _⟩)).widen (Nat.le_refl _) h
end
def c13 : LC :=
 .seq (.ops [.s 2 (.box 30 (.tmp 0)), .s 4 (.alloc 30 (.agg #[.slice none 0 0])), .ki 5 0, .ki 6 0]) (.seq (.seq (.ops [.ld 11 1 2, .c1 12 47 11, .nt 13 12, .m 14 13, .g 15 14 false (.mov (.tmp 1)), .g 16 14 false (.call
 48 [.tmp 15]), .g 17 14 false (.un .not (.tmp 16)), .pt 18 14 17]) (.cond (.tmp 18) (.seq (.ops [.s 19 (.build (.agg #[.slice none 0 0]) [(0, 1)] []), .st 1 4 19, .ki 5 0, .ki 6 1]) .ret) .skip)) (.seq (.ops [.ld 20 1 2,
 .c1 21 49 20, .s 7 (.alloc 30 (.agg #[.slice none 0 0])), .st 1 7 21]) (.seq (.seq (.ops [.m 22 1, .ll 23 22, .ki 24 0]) (.block 0 (.loop (.seq (.ops [.bb 25 .lss false 24 23]) (.seq (.cond (.tmp 25) .skip (.exit 0))
 (.seq (.block 1 (.seq (.ops [.m 26 24, .ia 27 5 22 24, .ld 28 5 27, .s 9 (.alloc 79 (.agg #[.int .i64 0, .string ⟨#[]⟩, .slice none 0 0, .string ⟨#[]⟩, .int .i64 0])), .m 8 26, .st 5 9 28]) (.seq (.ops [.ld 29 5 9, .c2
 30 50 7 29, .m 10 30]) (.seq (.ops [.m 31 10, .bk 32 .neq false 31 0]) (.cond (.tmp 32) (.seq (.ops [.s 33 (.build (.agg #[.slice none 0 0]) [(0, 1)] []), .m 34 8, .m 35 10, .st 1 4 33, .m 5 34, .m 6 35]) .ret)
 .skip))))) (.ops [.bk 36 .add false 24 1, .m 24 36]))))))) (.seq (.ops [.ld 37 1 7, .st 1 4 37, .ki 5 0, .ki 6 0]) .ret))))
def Br_ : LF := ⟨2, 38, c13, [.cell 4 (some 1), .tmp 5, .tmp 6]⟩
theorem CV_ : at_ Tryz.prog Tryz.f13 Br_ := ah_
theorem fq_ (x : ad_) (es : List ab_) (hx : ad_.sz x ≤ 1048576) (he : au_ ab_.sz es ≤ 1048576) : aL_ Tryz.prog 13 [.agg (ad_.cells x), .list 0 5 (es.map ab_.cells)] (kQ_ (bl_ x es)) s2_ := by
 refine bW_ mixed Tryz.func13 CV_ rfl (fun h0 => ?_)
 have htr : ∀ H, aa_ Tryz.prog 47 [.agg [.list 0 3 (x.Nodes.map ac_.cells)]] H (.val (.bool (aK_ x))) := fun H => iT_ x hx H
 have hno : ∀ H, aa_ Tryz.prog 48 [.list 0 5 (es.map ab_.cells)] H (.val (.bool (c1_ es))) := fun H => mo_ es he H
 have hcp : hJ_ Tryz.prog 49 [.agg [.list 0 3 (x.Nodes.map ac_.cells)]] (.agg (ad_.cells x)) _ := kV_ x hx
 have hl := aw_ he
 simp (disch := (first | omega | (simp only [ls_, la_, lc_, ln_]; first | done | omega))) only [aP_, go_sem, Nat.reduceEqDiff, ↓reduceIte, Br_, c13, ad_.cells]
 refine aa_.call (htr _) ?_
 by_cases q1 : aK_ x = true
 case neg =>
  have q1' : aK_ x = false := by simpa using q1
  have hR : bl_ x es = (⟨[]⟩, 0, 1) := by simp [bl_, q1']
  simp (disch := (first | omega | (simp only [ls_, la_, lc_, ln_]; first | done | omega))) only [cU_, go_sem, Nat.reduceEqDiff, ↓reduceIte, q1', bX_, Option.map_some, c4_]
  rw [hR]
  exact ⟨⟨by first | exact aJ_.app _ _ | exact (aJ_.app _ _).set (by omega), ju_ (jB_ (by simp)) (by simp) _ _⟩, _, rfl, _, _, rfl⟩
 simp (disch := (first | omega | (simp only [ls_, la_, lc_, ln_]; first | done | omega))) only [go_sem, Nat.reduceEqDiff, ↓reduceIte, q1]
 refine aa_.call (hno _) ?_
 by_cases q2 : c1_ es = true
 case neg =>
  have q2' : c1_ es = false := by simpa using q2
  have hR : bl_ x es = (⟨[]⟩, 0, 1) := by simp [bl_, q2']
  simp (disch := (first | omega | (simp only [ls_, la_, lc_, ln_]; first | done | omega))) only [cU_, go_sem, Nat.reduceEqDiff, ↓reduceIte, q2', bX_, Option.map_some, c4_]
  rw [hR]
  exact ⟨⟨by first | exact aJ_.app _ _ | exact (aJ_.app _ _).set (by omega), ju_ (jB_ (by simp)) (by simp) _ _⟩, _, rfl, _, _, rfl⟩
 have hR : bl_ x es = b6_ x es 0 := by simp [bl_, q1, q2]
 rw [hR]
 simp (disch := (first | omega | (simp only [ls_, la_, lc_, ln_]; first | done | omega))) only [aP_, go_sem, Nat.reduceEqDiff, ↓reduceIte, q2]
 refine hcp _ _ (fun av H1 m1 F1 q3 => ?_)
 obtain ⟨l, rfl, es1, hrow⟩ := q3
 have l1 := m1.len
 have p1 := m1.at (i := h0.length + 1) (by rw [b9_]; rfl)
 simp only [la_, lc_, ln_] at l1
 have m0 : aJ_ h0 H1 := (aJ_.app h0 _).trans m1
 have hrl := (List.getElem?_eq_some_iff.1 hrow).1
 have B0 : dZ_ H1.length (h0.length + 2) (H1 ++ [⟨30, 1, [[.own l x.Nodes.length]]⟩]) x := dZ_.of (hi := H1.length) (aP_ rfl) (by omega) (Nat.le_refl _) ((F1.tree.keep fun y _ q => aA_ q).widen (by simp) (Nat.le_refl _)) ((aA_ hrl).trans hrow)
 simp (disch := (first | omega | (simp only [ls_, la_, lc_, ln_]; first | done | omega))) only [aP_, go_sem, Nat.reduceEqDiff, ↓reduceIte]
 refine aM_ (fun n t h => ∃ (k : Nat) (y : ad_), t 4 = .ptr (h0.length + 1) 1 0 0 ∧ t 7 = .ptr H1.length 1 0 0 ∧ t 22 = .list 0 5 (es.map ab_.cells) ∧ t 23 = .val (.int .i64 es.length) ∧ t 24 = .val (.int .i64 k) ∧ aJ_ h0 h ∧ h[h0.length + 1]? = some ⟨30, 1, [[.val (.slice none 0 0)]]⟩ ∧
  dZ_ H1.length (h0.length + 2) h y ∧ aK_ y = true ∧ b6_ x es 0 = b6_ y (es.drop k) k ∧ n = es.length - k ∧ k ≤ es.length) es.length ?_ ?_
 ·refine ⟨0, x, rfl, rfl, rfl, rfl, rfl, ?_, ?_, ?_, q1, rfl, rfl, Nat.zero_le _⟩
  ·first | exact m0.add _ | exact (m0.add _).set (by omega)
  ·(repeat (first | rw [ar_ (by omega)] | rw [aA_ (by first | omega | (simp only [ls_, la_, lc_, ln_]; omega))])); exact p1
  ·first | exact B0 | (refine cast ?_ B0; congr 1; simp)
 rintro J hJ n t h ⟨k, y, t4, t7, t22, t23, t24, hM, o1, B, hy, hS, rfl, hk⟩
 have ml := hM.len
 have hlow := B.low
 have hol := (List.getElem?_eq_some_iff.1 o1).1
 by_cases hlt : k < es.length
 ·have hnk := (ki_ q2).2 es[k] (List.getElem_mem hlt)
  have hzk := cf_ he (List.getElem_mem hlt)
  simp (disch := (first | omega | (simp only [ls_, la_, lc_, ln_]; first | done | omega))) only [aP_, go_sem, Nat.reduceEqDiff, Nat.reduceAdd, ↓reduceIte, t7, t22, t23, t24, hlt, ab_.cells]
  refine jU_ (B.keep (fun y _ q => by (repeat (first | rw [ar_ (by omega)] | rw [aA_ (by first | omega | (simp only [ls_, la_, lc_, ln_]; omega))]))) (by simp)) es[k] hy hnk hzk (fun H2 k1 k2 k3 => ?_)
  simp only [la_, lc_, ln_] at k1
  have o2 : H2[h0.length + 1]? = some ⟨30, 1, [[.val (.slice none 0 0)]]⟩ := by
   rw [k2 _ (by omega)]; (repeat (first | rw [ar_ (by omega)] | rw [aA_ (by first | omega | (simp only [ls_, la_, lc_, ln_]; omega))])); exact o1
  have hM2 : aJ_ h0 H2 := ⟨by omega, fun z q => by
   rw [k2 z (by omega)]; (repeat (first | rw [ar_ (by omega)] | rw [aA_ (by first | omega | (simp only [ls_, la_, lc_, ln_]; omega))])); exact hM.kept z q⟩
  by_cases hc : (bE_ y es[k]).2 = 0
  ·simp (disch := (first | omega | (simp only [ls_, la_, lc_, ln_]; first | done | omega))) only [go_sem, Nat.reduceEqDiff, ↓reduceIte, t24, hc]
   exact ⟨es.length - (k + 1), by omega, hJ _ _ _ ⟨k + 1, (bE_ y es[k]).1, by simp [upd, t4], by simp [upd, t7], by simp [upd, t22], by simp [upd, t23], by simp [upd], hM2, o2, k3 hc, kw_ hy hnk, by rw [hS, hE_ hlt hc], rfl, by omega⟩⟩
  ·have hc' : ((bE_ y es[k]).2 = 0) = False := eq_false hc
   simp (disch := (first | omega | (simp only [ls_, la_, lc_, ln_]; first | done | omega))) only [aH_, go_sem, Nat.reduceEqDiff, ↓reduceIte, t4, o2, hc', bX_, Option.map_some, c4_]
   rw [hS, hB_ hlt hc]
   exact ⟨⟨by first | exact hM2 | exact hM2.set (by omega), ju_ (jB_ (by simp; omega)) (by simp; omega) _ _⟩, _, rfl, _, _, rfl⟩
 ·obtain ⟨a, o, ca, hF⟩ := B.arg
  have ca' := ca
  simp only [AV.cell, Value.oneCell'] at ca'
  simp (disch := (first | omega | (simp only [ls_, la_, lc_, ln_]; first | done | omega))) only [aH_, go_sem, Nat.reduceEqDiff, ↓reduceIte, t4, t7, t23, t24, o, o1, ca', hlt, c4_]
  rw [hS, k3_ (by omega)]
  exact ⟨⟨hM.set (by omega), ju_ ((hF.keep fun z q _ => ar_ (by omega)).widen (by omega) (by simp)) (by simp; omega) _ _⟩, _, ca, _, _, rfl⟩
def Ad_ : LC :=
 .seq (.ops [.s 1 (.box 126 (.tmp 0)), .s 2 (.mov (.const (.bool false)))]) (.seq (.seq (.ops [.fa 3 1 1, .ln 4 3, .fa 5 2 1, .ln 6 5, .c2 7 118 4 6, .nt 8 7]) (.cond (.tmp 8) (.seq (.ops [.s 2 (.mov (.const (.bool
 false)))]) .ret) .skip)) (.seq (.ops [.fa 9 0 1, .ln 10 9, .bk 11 .eql false 10 1, .m 12 11, .g 13 12 true (.fieldAddr 3 (.tmp 1)), .g 14 12 true (.load none (.tmp 13)), .g 15 12 true (.lenStr (.tmp 14)), .g 16 12 true
 (.bin .leq false (.tmp 15) (.const (.int .i64 64))), .pf 17 12 16, .m 18 17, .g 19 18 false (.fieldAddr 0 (.tmp 1)), .g 20 18 false (.load none (.tmp 19)), .g 21 18 false (.bin .eql false (.tmp 20) (.const (.int .i64
 2))), .g 22 18 false (.mov (.tmp 21)), .g 23 22 true (.fieldAddr 3 (.tmp 1)), .g 24 22 true (.load none (.tmp 23)), .g 25 22 true (.bin .eql false (.tmp 24) (.const (.string ⟨#[]⟩))), .g 26 18 false (.pick (.tmp 22)
 (.tmp 25) (.const (.bool false))), .pt 27 18 26, .m 2 27]) .ret))
def wB_ : LF := ⟨1, 28, Ad_, [.tmp 2]⟩
theorem BO_ : at_ Tryz.prog Tryz.f170 wB_ := ah_
theorem lx_ (x : aW_) (hx : aW_.sz x ≤ 1048576) (h : List Row) : aa_ Tryz.prog 170 [.agg (aW_.cells x)] h (.val (.bool (cM_ x))) := by
 refine ak_ mixed Tryz.func170 BO_ rfl rfl ?_ h
 have h1 := aW_.sz_Name hx
 have h2 := aw_ (aW_.sz_Subs hx)
 simp (disch := omega) only [wB_, Ad_, aW_.cells, go_sem, Nat.reduceEqDiff, Nat.reduceAdd, ↓reduceIte]
 repeat' (first
  | exact af_ _ _
  | (refine ae_ ?_; simp only [cM_, *, Bool.true_and, Bool.and_false, Bool.false_and, Bool.true_or, Bool.false_or, decide_true, decide_false, Bool.and_self, Bool.or_self]; done)
  | (refine ae_ ?_; simp [cM_, *]; done)
  | simp (disch := omega) only [go_sem, Nat.reduceEqDiff, ↓reduceIte]
  | (refine aa_.call (cq_ _ _ h1 h2 _) ?_)
  | (refine aa_.q (cq_ _ _ h1 h2 _) ?_)
  | ((first | (apply aQ_; assumption) | (apply aR_; assumption) | (apply a8_; assumption) | (apply a7_; assumption)); intro hb; try simp only [hb])
  | ((first | (apply aF_; assumption) | (apply aE_; assumption) | (apply aN_; assumption) | (apply aO_; assumption)); intro hb; try simp only [hb])
  | ((first | apply ay_ | apply aB_ | apply am_ | apply ao_) <;> intro hb <;> (try simp only [hb]) <;> (first | have hp := aZ_ hb | have hp := aX_ hb | have hp := a0_ hb | have hp := aY_ hb | skip)))
structure mM_ (L lo : Nat) (H : List Row) (x : ad_) : Prop where
 out : ∃ (a : AV) (p q : Nat), H[L]? = some ⟨30, 1, [[a]]⟩ ∧ a.cell = true ∧ lo ≤ p ∧ p ≤ q ∧ q ≤ H.length ∧ (q ≤ L ∨ L < p) ∧ ax_ p q H (.agg [a]) (.agg (ad_.cells x))
section
variable {L lo : Nat} {H H' : List Row} {x : ad_}
theorem mM_.keep (T : mM_ L lo H x) (hL : lo ≤ L) (hk : ∀ y, lo ≤ y → y < H.length → H'[y]? = H[y]?) (hl : H.length ≤ H'.length) : mM_ L lo H' x := by
 obtain ⟨a, p, q, o, ca, h1, h2, h3, h4, h5⟩ := T
 exact ⟨a, p, q, (hk L hL (List.getElem?_eq_some_iff.1 o).1).trans o, ca, h1, h2, by omega, h4, h5.keep fun y q1 q2 => hk y (by omega) (by omega)⟩
theorem mM_.lt (T : mM_ L lo H x) : L < H.length := by
 obtain ⟨a, p, q, o, _⟩ := T
 exact (List.getElem?_eq_some_iff.1 o).1
end
def B3_ : LC :=
 .seq (.ops [.s 4 (.box 30 (.tmp 0)), .s 8 (.alloc 30 (.agg #[.slice none 0 0])), .ki 9 0]) (.seq (.ops [.ld 14 1 4, .m 15 1, .m 16 2, .c3 17 165 14 15 16, .m 13 17, .ex 18 13 0, .ex 19 13 1, .m 10 18, .m 11 19]) (.seq
 (.seq (.ops [.m 20 11, .nt 21 20, .m 22 21, .g 23 22 true (.fieldAddr 0 (.tmp 4)), .g 24 22 true (.load none (.tmp 23)), .g 25 22 true (.lenSl (.tmp 24)), .g 26 22 true (.bin .geq false (.tmp 25) (.const (.int .i64
 120))), .pf 27 22 26]) (.cond (.tmp 27) (.seq (.ops [.s 28 (.build (.agg #[.slice none 0 0]) [(0, 1)] []), .st 1 8 28, .ki 9 4]) .ret) .skip)) (.seq (.ops [.s 29 (.buildSlice 112 3 (.agg #[.string ⟨#[]⟩, .slice none 0 0,
 .string ⟨#[]⟩]) 0 []), .fa 30 0 4, .ln 31 30, .m 32 10, .s 33 (.sliceSl 3 (.tmp 31) none (some (.tmp 32))), .ap 34 112 3 56 29 33, .m 12 34]) (.seq (.ops [.m 35 12, .m 36 1, .m 37 2, .m 38 3, .s 39 (.build (.agg
 #[.string ⟨#[]⟩, .slice none 0 0, .string ⟨#[]⟩]) [(0, 1), (1, 1), (2, 1)] [(0, .tmp 36), (1, .tmp 37), (2, .tmp 38)]), .s 40 (.buildSlice 112 3 (.agg #[.string ⟨#[]⟩, .slice none 0 0, .string ⟨#[]⟩]) 1 [(0, .tmp 39)]),
 .ap 41 112 3 56 35 40, .m 12 41]) (.seq (.seq (.ops [.m 42 11]) (.cond (.tmp 42) (.ops [.m 43 10, .bk 44 .add false 43 1, .m 10 44]) .skip)) (.seq (.ops [.m 45 12, .fa 46 0 4, .ln 47 46, .m 48 10, .s 49 (.sliceSl 3 (.tmp
 47) (some (.tmp 48)) none), .ap 50 112 3 56 45 49, .c1 51 157 50, .s 52 (.build (.agg #[.slice none 0 0]) [(0, 1)] [(0, .tmp 51)]), .st 1 8 52, .ki 9 0]) .ret))))))
def wK_ : LF := ⟨4, 53, B3_, [.cell 8 (some 1), .tmp 9]⟩
theorem BZ_ : at_ Tryz.prog Tryz.f201 wK_ := ah_
theorem sh_ (ns : List ac_) : ∀ e ∈ ns.map ac_.cells, e.all AV.cell = true := by
 intro e he
 obtain ⟨x, _, q⟩ := List.mem_map.1 he; subst q
 rfl
theorem kW_ (x : ad_) (n : ByteArray) (s : List ByteArray) (v : ByteArray) (hx : aK_ x = true) (ht : cI_ n s = true) (hv : v.size ≤ 64) (hs : au_ ByteArray.size s ≤ 1048576) : aL_ Tryz.prog 201 [.agg (ad_.cells x), .val (.string n), .list 0 1 (s.map aj_), .val (.string v)] (e4_ (if dk_ x n s = 0 then ⟨dB_ x.Nodes n s v⟩ else ⟨[]⟩, dk_ x n s)) hH_ := by
 refine bW_ mixed Tryz.func201 BZ_ rfl (fun h0 => ?_)
 have hat : ∀ H, aa_ Tryz.prog 165 [.agg [.list 0 3 (x.Nodes.map ac_.cells)], .val (.string n), .list 0 1 (s.map aj_)] H (.tup [.val (.int .i64 (bg_ x.Nodes n s)), .val (.bool (br_ x.Nodes n s))]) := fun H => jK_ x n s (c7_ hx) hs H
 have hxl := he_ hx
 have hpl := kL_ x.Nodes n s
 have hcv := sh_ x.Nodes
 simp (disch := (first | omega | (simp only [ls_, la_, lc_, ln_]; first | done | omega))) only [aP_, go_sem, Nat.reduceEqDiff, ↓reduceIte, wK_, B3_, ad_.cells]
 refine aa_.call (hat _) ?_
 generalize hH : (h0 ++ [⟨30, 1, [[.list 0 3 (x.Nodes.map ac_.cells)]]⟩, ⟨30, 1, [[.val (.slice none 0 0)]]⟩] : List Row) = H
 have o0 : H[h0.length]? = some ⟨30, 1, [[.list 0 3 (x.Nodes.map ac_.cells)]]⟩ := by rw [← hH, cw_]; rfl
 have o1 : H[h0.length + 1]? = some ⟨30, 1, [[.val (.slice none 0 0)]]⟩ := by rw [← hH, b9_]; rfl
 have hl : H.length = h0.length + 2 := by rw [← hH]; simp
 have hM : aJ_ h0 H := by rw [← hH]; exact aJ_.app _ _
 clear hH
 have fin : dk_ x n s = 0 → ∀ (H' : List Row) (es : List (List AV)) (k : Nat) (K : AV → List Row → Prop), aJ_ H H' → H.length < H'.length → H'[H.length]? = some ⟨112, 3, es⟩ → es = (dB_ x.Nodes n s v).map ac_.cells → k = (dB_ x.Nodes n s v).length →
  (∀ (l : Nat) (H1 : List Row), aJ_ H' H1 → FB H'.length H1.length H1 (.own l (dB_ x.Nodes n s v).length) (.list 0 3 ((dB_ x.Nodes n s v).map ac_.cells)) → K (.own l (dB_ x.Nodes n s v).length) H1) →
  callSem Tryz.prog 157 [.own H.length k] H' K := by
  intro hC H' es k K hM' hHl o2 he hk hK
  have hok : aK_ ⟨dB_ x.Nodes n s v⟩ = true := qT_ hx ht hv (by
   unfold dk_ at hC
   split at hC
   ·assumption
   ·cases hC)
  subst he hk
  refine ev_ (g3_ (dB_ x.Nodes n s v) (ad_.sz_Nodes (c7_ hok))) (a5_.cons (bU_.res (n := 3) (kK_ o2 (by simp) (nP_ _))) a5_.nil) (fun av H1 m1 F1 q1 => ?_)
  obtain ⟨l, rfl⟩ := q1
  exact hK l H1 m1 F1
 cases hf : br_ x.Nodes n s
 case true =>
  have hC : dk_ x n s = 0 := by rw [dk_, if_pos (.inl hf)]
  obtain ⟨hp, _, _⟩ := i9_ hf
  have hP : dB_ x.Nodes n s v = x.Nodes.take (bg_ x.Nodes n s) ++ ⟨n, s, v⟩ :: x.Nodes.drop (bg_ x.Nodes n s + 1) := by rw [dB_, if_pos hf]
  rw [hC, if_pos rfl]
  simp (disch := (first | omega | (simp only [ls_, la_, lc_, ln_]; first | done | omega))) only [aA_, aP_, cU_, go_sem, Nat.reduceEqDiff, Nat.reduceAdd, Nat.reduceLeDiff, ↓reduceIte, o0, hpl, bX_, Option.map_some, List.length_map, la_, List.length_take, List.length_drop, lc_, ln_, List.drop_zero, List.nil_append, Nat.zero_add, if_pos]
  have htn : ((bg_ x.Nodes n s : Int) + 1).toNat = bg_ x.Nodes n s + 1 := by omega
  have hML : (x.Nodes.map ac_.cells).length ≤ x.Nodes.length := by simp
  refine ⟨by omega, by omega, fun e he => hcv e (List.mem_of_mem_take he), by omega, by omega, by omega, by omega, fun e he => hcv e (List.mem_of_mem_take (List.mem_of_mem_drop he)), ?_⟩
  refine fin hC _ _ _ _ (aJ_.app _ _) (by simp) (aP_ rfl) ?_ ?_ (fun l H1 m1 F1 => ?_)
  ·rw [hP, htn, List.take_of_length_le hML]
   simp only [List.map_append, List.map_cons, List.map_take, List.map_drop]
   rfl
  ·rw [hP, la_, lc_, List.length_take, List.length_drop]; omega
  ·have o2 := m1.at ((aA_ (by omega)).trans o1)
   have l1 := m1.len
   simp only [la_, lc_, ln_] at l1
   simp (disch := (first | omega | (simp only [ls_, la_, lc_, ln_]; first | done | omega))) only [aH_, go_sem, Nat.reduceEqDiff, ↓reduceIte, o2, bX_, Option.map_some, dg_]
   exact ⟨⟨((hM.add _).trans m1).set (by omega), hg_ ((ax_.agg (al_.cons (F1.tree.keep fun z q _ => ar_ (by simp at q; omega)) (al_.nil _ _ _) ⟨by simp; omega, Nat.le_refl _⟩)).widen (by simp; omega) (by simp)) (by simp; omega) _⟩, _, rfl, _, rfl⟩
 case false =>
  by_cases h120 : x.Nodes.length < 120
  ·have hC : dk_ x n s = 0 := by rw [dk_, if_pos (.inr h120)]
   have h120' : ((120 : Int) ≤ (x.Nodes.length : Int)) = False := eq_false (by omega)
   have hP : dB_ x.Nodes n s v = x.Nodes.take (bg_ x.Nodes n s) ++ ⟨n, s, v⟩ :: x.Nodes.drop (bg_ x.Nodes n s) := lN_ hf
   rw [hC, if_pos rfl]
   simp (disch := (first | omega | (simp only [ls_, la_, lc_, ln_]; first | done | omega))) only [aA_, aP_, cU_, go_sem, Nat.reduceEqDiff, Nat.reduceAdd, Nat.reduceLeDiff, ↓reduceIte, o0, hpl, bX_, Option.map_some, List.length_map, la_, List.length_take, List.length_drop, lc_, ln_, List.drop_zero, List.nil_append, Nat.zero_add, h120']
   have hML : (x.Nodes.map ac_.cells).length ≤ x.Nodes.length := by simp
   refine ⟨by omega, by omega, fun e he => hcv e (List.mem_of_mem_take he), by omega, by omega, by omega, by omega, fun e he => hcv e (List.mem_of_mem_take (List.mem_of_mem_drop he)), ?_⟩
   refine fin hC _ _ _ _ (aJ_.app _ _) (by simp) (aP_ rfl) ?_ ?_ (fun l H1 m1 F1 => ?_)
   ·rw [hP, List.take_of_length_le hML]
    simp only [List.map_append, List.map_cons, List.map_take, List.map_drop]
    rfl
   ·rw [hP, la_, lc_, List.length_take, List.length_drop]; omega
   ·have o2 := m1.at ((aA_ (by omega)).trans o1)
    have l1 := m1.len
    simp only [la_, lc_, ln_] at l1
    simp (disch := (first | omega | (simp only [ls_, la_, lc_, ln_]; first | done | omega))) only [aH_, go_sem, Nat.reduceEqDiff, ↓reduceIte, o2, bX_, Option.map_some, dg_]
    exact ⟨⟨((hM.add _).trans m1).set (by omega), hg_ ((ax_.agg (al_.cons (F1.tree.keep fun z q _ => ar_ (by simp at q; omega)) (al_.nil _ _ _) ⟨by simp; omega, Nat.le_refl _⟩)).widen (by simp; omega) (by simp)) (by simp; omega) _⟩, _, rfl, _, rfl⟩
  ·have hC : dk_ x n s = 4 := by rw [dk_, if_neg (by rw [hf]; simp; omega)]
   have h120' : ((120 : Int) ≤ (x.Nodes.length : Int)) = True := eq_true (by omega)
   rw [hC, if_neg (by decide)]
   simp (disch := (first | omega | (simp only [ls_, la_, lc_, ln_]; first | done | omega))) only [aH_, go_sem, Nat.reduceEqDiff, ↓reduceIte, o0, o1, List.length_map, h120', bX_, Option.map_some, dg_]
   exact ⟨⟨hM.set (by omega), hg_ (jB_ (by simp; omega)) (by simp; omega) _⟩, _, rfl, _, rfl⟩
def uA_ : LC :=
 .seq (.ops [.s 2 (.box 30 (.tmp 0)), .s 3 (.box 126 (.tmp 1)), .s 4 (.alloc 30 (.agg #[.slice none 0 0])), .ki 5 0]) (.seq (.seq (.ops [.fa 6 0 3, .ln 7 6, .bk 8 .eql false 7 1]) (.cond (.tmp 8) (.seq (.ops [.ld 9 1 2,
 .fa 10 1 3, .ln 11 10, .fa 12 2 3, .ln 13 12, .fa 14 3 3, .ln 15 14, .s 16 (.call 201 [.tmp 9, .tmp 11, .tmp 13, .tmp 15]), .ex 17 16 0, .ex 18 16 1, .st 1 4 17, .m 5 18]) .ret) .skip)) (.seq (.ops [.ld 19 1 2, .fa 20 1
 3, .ln 21 20, .fa 22 2 3, .ln 23 22, .c3 24 202 19 21 23, .st 1 4 24, .ki 5 0]) .ret))
def sl_ : LF := ⟨2, 25, uA_, [.cell 4 (some 1), .tmp 5]⟩
theorem Bb_ : at_ Tryz.prog Tryz.f171 sl_ := ah_
theorem lU_ (x : ad_) (c : aW_) (hx : aK_ x = true) (hc : cM_ c = true) (hz : aW_.sz c ≤ 1048576) : aL_ Tryz.prog 171 [.agg (ad_.cells x), .agg (aW_.cells c)] (e4_ (bT_ x c)) hH_ := by
 refine bW_ mixed Tryz.func171 Bb_ rfl (fun h0 => ?_)
 have hs := aW_.sz_Subs hz
 have hc2 := hc
 simp only [cM_, Bool.and_eq_true, Bool.or_eq_true, decide_eq_true_eq] at hc2
 by_cases hk1 : c.Kind = 1
 ·have hk1' : (c.Kind = 1) = True := eq_true hk1
  have hv : c.Value.size ≤ 64 := by rcases hc2.2 with ⟨_, q⟩ | ⟨q, _⟩ <;> omega
  have hR : bT_ x c = (if dk_ x c.Name c.Subs = 0 then ⟨dB_ x.Nodes c.Name c.Subs c.Value⟩ else ⟨[]⟩, dk_ x c.Name c.Subs) := by
   unfold bT_ dk_
   rw [if_pos hk1]
   split
   ·rfl
   ·rfl
  have hput : aL_ Tryz.prog 201 [.agg [.list 0 3 (x.Nodes.map ac_.cells)], .val (.string c.Name), .list 0 1 (c.Subs.map aj_), .val (.string c.Value)] (e4_ (bT_ x c)) hH_ := by
   rw [hR]; exact kW_ x c.Name c.Subs c.Value hx hc2.1 hv hs
  simp (disch := (first | omega | (simp only [ls_, la_, lc_, ln_]; first | done | omega))) only [aP_, cU_, go_sem, Nat.reduceEqDiff, Nat.reduceAdd, ↓reduceIte, sl_, uA_, ad_.cells, aW_.cells, hk1']
  refine bD_ hput (fun av H1 m1 F1 q1 => ?_)
  obtain ⟨b, cb, v, rfl⟩ := q1
  obtain ⟨G, hv⟩ := F1.two
  simp only [AV.val.injEq, Value.int.injEq, true_and] at hv
  subst hv
  have cb' := cb
  simp only [AV.cell, Value.oneCell'] at cb'
  have l1 := m1.len
  simp only [la_, lc_, ln_] at l1
  have p2 := m1.at (i := h0.length + 2) (by rw [b9_]; rfl)
  simp (disch := (first | omega | (simp only [ls_, la_, lc_, ln_]; first | done | omega))) only [aH_, go_sem, Nat.reduceEqDiff, ↓reduceIte, p2, cb', dg_]
  exact ⟨⟨((aJ_.app h0 _).trans m1).set (by omega), hg_ ((G.tree.keep fun z q _ => ar_ (by simp at q; omega)).widen (by simp) (by simp)) (by simp; omega) _⟩, _, cb, _, rfl⟩
 ·have hk1' : (c.Kind = 1) = False := eq_false hk1
  have hR : bT_ x c = (⟨cJ_ x.Nodes c.Name c.Subs⟩, 0) := by rw [bT_, if_neg hk1]
  have hkill : aL_ Tryz.prog 202 [.agg [.list 0 3 (x.Nodes.map ac_.cells)], .val (.string c.Name), .list 0 1 (c.Subs.map aj_)] (.agg (ad_.cells ⟨cJ_ x.Nodes c.Name c.Subs⟩)) (fun a => ∃ l, a = .agg [.own l (cJ_ x.Nodes c.Name c.Subs).length]) := km_ x c.Name c.Subs (c7_ hx)
  rw [hR]
  simp (disch := (first | omega | (simp only [ls_, la_, lc_, ln_]; first | done | omega))) only [aP_, cU_, go_sem, Nat.reduceEqDiff, Nat.reduceAdd, ↓reduceIte, sl_, uA_, ad_.cells, aW_.cells, hk1']
  refine bD_ hkill (fun av H1 m1 F1 q1 => ?_)
  obtain ⟨l, rfl⟩ := q1
  have l1 := m1.len
  simp only [la_, lc_, ln_] at l1
  have p2 := m1.at (i := h0.length + 2) (by rw [b9_]; rfl)
  simp (disch := (first | omega | (simp only [ls_, la_, lc_, ln_]; first | done | omega))) only [aH_, go_sem, Nat.reduceEqDiff, ↓reduceIte, p2, dg_]
  exact ⟨⟨((aJ_.app h0 _).trans m1).set (by omega), hg_ ((F1.tree.keep fun z q _ => ar_ (by simp at q; omega)).widen (by simp) (by simp)) (by simp; omega) _⟩, _, rfl, _, rfl⟩
def jk_ (x : ad_) (c : aW_) : ad_ × Int := if (aK_ x && cM_ c) = true then bT_ x c else (⟨[]⟩, 1)
def zi_ : LC :=
 .seq (.ops [.s 2 (.box 30 (.tmp 0)), .s 3 (.box 126 (.tmp 1)), .s 4 (.alloc 30 (.agg #[.slice none 0 0])), .ki 5 0]) (.seq (.seq (.ops [.ld 6 1 2, .c1 7 41 6, .nt 8 7, .m 9 8, .g 10 9 false (.load (some 4) (.tmp 3)), .g
 11 9 false (.call 170 [.tmp 10]), .g 12 9 false (.un .not (.tmp 11)), .pt 13 9 12]) (.cond (.tmp 13) (.seq (.ops [.s 14 (.build (.agg #[.slice none 0 0]) [(0, 1)] []), .st 1 4 14, .ki 5 1]) .ret) .skip)) (.seq (.ops [.ld
 15 1 2, .ld 16 4 3, .c2 17 171 15 16, .ex 18 17 0, .ex 19 17 1, .st 1 4 18, .m 5 19]) .ret))
def vP_ : LF := ⟨2, 20, zi_, [.cell 4 (some 1), .tmp 5]⟩
theorem BR_ : at_ Tryz.prog Tryz.f133 vP_ := ah_
theorem jS_ (x : ad_) (c : aW_) (hx : ad_.sz x ≤ 1048576) (hz : aW_.sz c ≤ 1048576) : aL_ Tryz.prog 133 [.agg (ad_.cells x), .agg (aW_.cells c)] (e4_ (jk_ x c)) hH_ := by
 refine bW_ mixed Tryz.func133 BR_ rfl (fun h0 => ?_)
 have htr : ∀ H, aa_ Tryz.prog 41 [.agg [.list 0 3 (x.Nodes.map ac_.cells)]] H (.val (.bool (aK_ x))) := fun H => cA_ x hx H
 have hch : ∀ H, aa_ Tryz.prog 170 [.agg [.val (.int .i64 c.Kind), .val (.string c.Name), .list 0 1 (c.Subs.map aj_), .val (.string c.Value)]] H (.val (.bool (cM_ c))) := fun H => lx_ c hz H
 simp (disch := (first | omega | (simp only [ls_, la_, lc_, ln_]; first | done | omega))) only [aP_, go_sem, Nat.reduceEqDiff, Nat.reduceAdd, ↓reduceIte, vP_, zi_, ad_.cells, aW_.cells]
 refine aa_.call (htr _) ?_
 by_cases q1 : aK_ x = true
 case neg =>
  have q1' : aK_ x = false := by simpa using q1
  have hR : jk_ x c = (⟨[]⟩, 1) := by simp [jk_, q1']
  simp (disch := (first | omega | (simp only [ls_, la_, lc_, ln_]; first | done | omega))) only [nN_, go_sem, Nat.reduceEqDiff, ↓reduceIte, q1', bX_, Option.map_some, dg_]
  rw [hR]
  exact ⟨⟨by first | exact aJ_.app _ _ | exact (aJ_.app _ _).set (by omega), hg_ (jB_ (by simp)) (by simp) _⟩, _, rfl, _, rfl⟩
 simp (disch := (first | omega | (simp only [ls_, la_, lc_, ln_]; first | done | omega))) only [cU_, go_sem, Nat.reduceEqDiff, Nat.reduceAdd, ↓reduceIte, q1]
 refine aa_.call (hch _) ?_
 by_cases q2 : cM_ c = true
 case neg =>
  have q2' : cM_ c = false := by simpa using q2
  have hR : jk_ x c = (⟨[]⟩, 1) := by simp [jk_, q2']
  simp (disch := (first | omega | (simp only [ls_, la_, lc_, ln_]; first | done | omega))) only [nN_, go_sem, Nat.reduceEqDiff, ↓reduceIte, q2', bX_, Option.map_some, dg_]
  rw [hR]
  exact ⟨⟨by first | exact aJ_.app _ _ | exact (aJ_.app _ _).set (by omega), hg_ (jB_ (by simp)) (by simp) _⟩, _, rfl, _, rfl⟩
 have hR : jk_ x c = bT_ x c := by simp [jk_, q1, q2]
 have hdo : aL_ Tryz.prog 171 [.agg [.list 0 3 (x.Nodes.map ac_.cells)], .agg [.val (.int .i64 c.Kind), .val (.string c.Name), .list 0 1 (c.Subs.map aj_), .val (.string c.Value)]] (e4_ (bT_ x c)) hH_ := lU_ x c q1 q2 hz
 rw [hR]
 simp (disch := (first | omega | (simp only [ls_, la_, lc_, ln_]; first | done | omega))) only [aP_, cU_, go_sem, Nat.reduceEqDiff, Nat.reduceAdd, ↓reduceIte, q2]
 refine bD_ hdo (fun av H1 m1 F1 q3 => ?_)
 obtain ⟨b, cb, v, rfl⟩ := q3
 obtain ⟨G, hv⟩ := F1.two
 simp only [AV.val.injEq, Value.int.injEq, true_and] at hv
 subst hv
 have cb' := cb
 simp only [AV.cell, Value.oneCell'] at cb'
 have l1 := m1.len
 simp only [la_, lc_, ln_] at l1
 have p2 := m1.at (i := h0.length + 2) (by rw [b9_]; rfl)
 simp (disch := (first | omega | (simp only [ls_, la_, lc_, ln_]; first | done | omega))) only [aH_, go_sem, Nat.reduceEqDiff, ↓reduceIte, p2, cb', dg_]
 exact ⟨⟨((aJ_.app h0 _).trans m1).set (by omega), hg_ ((G.tree.keep fun z q _ => ar_ (by simp at q; omega)).widen (by simp) (by simp)) (by simp; omega) _⟩, _, cb, _, rfl⟩
def c84 : LC :=
 .seq (.ops [.s 2 (.box 30 (.tmp 0)), .s 3 (.box 79 (.tmp 1)), .s 4 (.alloc 30 (.agg #[.slice none 0 0])), .ki 5 0]) (.seq (.gops [.ld 6 1 2, .ld 7 5 3] [(.c1 8 134 7, [.ld 6 1 2]), (.c2 9 133 6 8, []), (.ex 10 9 0, []),
 (.ex 11 9 1, []), (.st 1 4 10, []), (.m 5 11, [])]) .ret)
def yh_ : LF := ⟨2, 12, c84, [.cell 4 (some 1), .tmp 5]⟩
theorem CT_ : at_ Tryz.prog Tryz.f84 yh_ := ah_
theorem j5_ (x : ad_) (e : ab_) (hx : aK_ x = true) (hn : bv_ e = true) (ht : b2_ e = true) (hz : ab_.sz e ≤ 1048576) : aL_ Tryz.prog 84 [.agg (ad_.cells x), .agg (ab_.cells e)] (e4_ (bT_ x (dL_ e))) hH_ := by
 refine bW_ mixed Tryz.func84 CT_ rfl (fun h0 => ?_)
 have hch : aL_ Tryz.prog 134 [.agg [.val (.int .i64 e.Kind), .val (.string e.Name), .list 0 1 (e.Subs.map aj_), .val (.string e.Value), .val (.int .i64 e.N)]] (.agg (aW_.cells (dL_ e))) (fun a => ∃ l, a = .agg [.val (.int .i64 (dL_ e).Kind), .val (.string e.Name), .own l e.Subs.length, .val (.string e.Value)]) := jl_ e hz
 have hcz : aW_.sz (dL_ e) ≤ 1048576 := Nat.le_trans (Nat.le_refl (e.Name.size + au_ ByteArray.size e.Subs + e.Value.size)) hz
 have hdc : jk_ x (dL_ e) = bT_ x (dL_ e) := by simp [jk_, hx, k4_ hn ht]
 simp (disch := (first | omega | (simp only [ls_, la_, lc_, ln_]; first | done | omega))) only [aP_, cU_, go_sem, Nat.reduceEqDiff, Nat.reduceAdd, ↓reduceIte, yh_, c84, ad_.cells, ab_.cells]
 refine bD_ hch (fun av H1 m1 F1 q3 => ?_)
 obtain ⟨l, rfl⟩ := q3
 have l1 := m1.len
 simp only [la_, lc_, ln_] at l1
 have p0 := m1.at (i := h0.length) (by rw [cw_]; rfl)
 have p2 := m1.at (i := h0.length + 2) (by rw [b9_]; rfl)
 simp (disch := (first | omega | (simp only [ls_, la_, lc_, ln_]; first | done | omega))) only [go_sem, Nat.reduceEqDiff, ↓reduceIte, p0]
 refine ev_ (jS_ x (dL_ e) (c7_ hx) hcz) (a5_.cons (bU_.same rfl) (a5_.cons F1.arg.any a5_.nil)) (fun av H2 m2 F2 q4 => ?_)
 obtain ⟨b, cb, v, rfl⟩ := q4
 obtain ⟨G, hv⟩ := F2.two
 simp only [AV.val.injEq, Value.int.injEq, true_and] at hv
 subst hv
 rw [hdc] at G ⊢
 have cb' := cb
 simp only [AV.cell, Value.oneCell'] at cb'
 have l2 := m2.len
 have p3 := m2.at p2
 simp (disch := (first | omega | (simp only [ls_, la_, lc_, ln_]; first | done | omega))) only [aH_, go_sem, Nat.reduceEqDiff, ↓reduceIte, p3, cb', dg_]
 exact ⟨⟨(((aJ_.app h0 _).trans m1).trans m2).set (by omega), hg_ ((G.tree.keep fun z q _ => ar_ (by omega)).widen (by omega) (by simp)) (by simp; omega) _⟩, _, cb, _, rfl⟩
theorem uV_ {e : ab_} (hn : bv_ e = true) (hr : bC_ e = false) : b2_ e = true := by
 cases ht : b2_ e
 ·rw [o7_ hn ht] at hr; cases hr
 ·rfl
theorem sK_ {e : ab_} (hr : bC_ e = true) : b2_ e = false := by
 simp only [bC_, Bool.or_eq_true, decide_eq_true_eq] at hr
 simp only [b2_, Bool.or_eq_false_iff, decide_eq_false_iff_not]
 omega
structure kI_ (L : Nat) (a0 : AV) (x0 : ad_) (h : List Row) (y : ad_) : Prop where
 out : ∃ a, h[L]? = some ⟨30, 1, [[a]]⟩ ∧ a.cell = true ∧ ((a = a0 ∧ y = x0) ∨ ax_ (L + 2) h.length h (.agg [a]) (.agg (ad_.cells y)))
theorem kI_.lt {L : Nat} {a0 : AV} {x0 y : ad_} {h : List Row} (T : kI_ L a0 x0 h y) : L < h.length := by
 obtain ⟨a, o, _⟩ := T
 exact (List.getElem?_eq_some_iff.1 o).1
theorem kI_.keep {L : Nat} {a0 : AV} {x0 y : ad_} {h h' : List Row} (T : kI_ L a0 x0 h y) (hk : ∀ z, L ≤ z → z < h.length → z ≠ L + 1 → h'[z]? = h[z]?) (hl : h.length ≤ h'.length) : kI_ L a0 x0 h' y := by
 have hL := T.lt
 obtain ⟨a, o, ca, hF⟩ := T
 refine ⟨a, (hk L (Nat.le_refl _) hL (by omega)).trans o, ca, ?_⟩
 rcases hF with q | q
 ·exact .inl q
 ·exact .inr ((q.keep fun z q1 q2 => hk z (by omega) q2 (by omega)).widen (Nat.le_refl _) hl)
def c43 : LC :=
 .seq (.ops [.s 2 (.box 30 (.tmp 0)), .s 4 (.alloc 30 (.agg #[.slice none 0 0])), .ki 5 0, .ki 6 0]) (.seq (.seq (.ops [.ki 7 0]) (.block 0 (.loop (.seq (.seq (.ops [.m 10 7, .m 11 1, .ll 12 11, .bb 13 .lss false 10 12])
 (.cond (.tmp 13) .skip (.exit 0))) (.seq (.block 1 (.seq (.seq (.ops [.m 16 1, .m 17 7, .ia 18 5 16 17, .ld 19 5 18, .c1 20 81 19]) (.cond (.tmp 20) (.seq (.seq (.gops [.ld 21 1 2, .m 22 1, .m 23 7, .ia 24 5 22 23, .ld
 25 5 24, .m 27 1, .m 28 7, .ia 29 5 27 28, .ld 30 5 29] [(.c2 26 83 21 25, [.m 27 1, .m 28 7, .ia 29 5 27 28, .ld 30 5 29]), (.c2 31 82 26 30, []), (.nt 32 31, [])]) (.cond (.tmp 32) (.seq (.ops [.s 33 (.build (.agg
 #[.slice none 0 0]) [(0, 1)] []), .m 34 7, .st 1 4 33, .m 5 34, .ki 6 5]) .ret) .skip)) (.exit 1)) .skip)) (.seq (.gops [.ld 36 1 2, .m 37 1, .m 38 7, .ia 39 5 37 38, .ld 40 5 39] [(.c2 41 84 36 40, []), (.m 35 41, []),
 (.ex 42 35 0, []), (.ex 43 35 1, []), (.s 8 (.alloc 30 (.agg #[.slice none 0 0])), [.ld 36 1 2, .m 37 1, .m 38 7, .ia 39 5 37 38, .ld 40 5 39]), (.st 1 8 42, []), (.m 9 43, [])]) (.seq (.seq (.ops [.m 44 9, .bk 45 .neq
 false 44 0]) (.cond (.tmp 45) (.seq (.ops [.s 46 (.build (.agg #[.slice none 0 0]) [(0, 1)] []), .m 47 7, .m 48 9, .st 1 4 46, .m 5 47, .m 6 48]) .ret) .skip)) (.ops [.ld 49 1 8, .st 1 2 49]))))) (.ops [.m 14 7, .bk 15
 .add false 14 1, .m 7 15])))))) (.seq (.ops [.ld 50 1 2, .st 1 4 50, .ki 5 0, .ki 6 0]) .ret))
def AI_ : LF := ⟨2, 51, c43, [.cell 4 (some 1), .tmp 5, .tmp 6]⟩
theorem CO_ : at_ Tryz.prog Tryz.f43 AI_ := qV_
theorem lP_ {H : List Row} {a0 : AV} (x : ad_) (es : List ab_) (ca0 : a0.cell = true) (hA0 : ∀ X : List Row, aJ_ H X → bU_ X (.agg [a0]) (.agg (ad_.cells x))) (hx : aK_ x = true) (hn : ∀ e ∈ es, bv_ e = true) (hz : au_ ab_.sz es ≤ 1048576) {K : AV → List Row → Prop}
 (hk : ∀ (b : AV) (H' : List Row), aJ_ H H' → b.cell = true → ((b = a0 ∧ (b6_ x es 0).1 = x) ∨ ax_ H.length H'.length H' (.agg [b]) (.agg (ad_.cells (b6_ x es 0).1))) → K (.tup [.agg [b], .val (.int .i64 (b6_ x es 0).2.1), .val (.int .i64 (b6_ x es 0).2.2)]) H') :
 callSem Tryz.prog 43 [.agg [a0], .list 0 5 (es.map ab_.cells)] H K := by
 refine bk_ mixed Tryz.func43 CO_ (ck_ rfl ?_)
 have hl := aw_ hz
 have ca0' := ca0
 simp only [AV.cell, Value.oneCell'] at ca0'
 simp (disch := (first | omega | (simp only [ls_, la_, lc_, ln_]; first | done | omega))) only [go_sem, ↓reduceIte, AI_, c43, ca0']
 refine aM_ (fun n t h => ∃ (k : Nat) (y : ad_), t 1 = .list 0 5 (es.map ab_.cells) ∧ t 2 = .ptr H.length 1 0 0 ∧ t 4 = .ptr (H.length + 1) 1 0 0 ∧ t 7 = .val (.int .i64 k) ∧ aJ_ H h ∧ h[H.length + 1]? = some ⟨30, 1, [[.val (.slice none 0 0)]]⟩ ∧
  kI_ H.length a0 x h y ∧ aK_ y = true ∧ b6_ x es 0 = b6_ y (es.drop k) k ∧ n = es.length - k ∧ k ≤ es.length) es.length ⟨0, x, rfl, rfl, rfl, rfl, aJ_.app _ _, by rw [b9_]; rfl, ⟨a0, by rw [cw_]; rfl, ca0, .inl ⟨rfl, rfl⟩⟩, hx, rfl, rfl, Nat.zero_le _⟩ ?_
 rintro J hJ n t h ⟨k, y, t1, t2, t4, t7, hM, o1, T, hy, hS, rfl, hk'⟩
 have ml := hM.len
 have hlL := T.lt
 obtain ⟨a, o0, ca, hF⟩ := id T
 have hol := (List.getElem?_eq_some_iff.1 o1).1
 have ca' := ca
 simp only [AV.cell, Value.oneCell'] at ca'
 have hA : bU_ h (.agg [a]) (.agg (ad_.cells y)) := by
  rcases hF with ⟨rfl, rfl⟩ | q
  ·exact hA0 h hM
  ·exact q.arg.any
 have hnil : ∀ X : List Row, aJ_ H X → ax_ H.length X.length X (.agg [.val (.slice none 0 0)]) (.agg (ad_.cells ⟨[]⟩)) := fun X m => jB_ m.len
 skip
 by_cases hlt : k < es.length
 ·have hnk := hn es[k] (List.getElem_mem hlt)
  have hzk : ab_.sz es[k] ≤ 1048576 := cf_ hz (List.getElem_mem hlt)
  have hrd : ∀ X, aa_ Tryz.prog 81 [.agg [.val (.int .i64 es[k].Kind), .val (.string es[k].Name), .list 0 1 (es[k].Subs.map aj_), .val (.string es[k].Value), .val (.int .i64 es[k].N)]] X (.val (.bool (bC_ es[k]))) := fun X => h4_ es[k] X
  simp (disch := (first | omega | (simp only [ls_, la_, lc_, ln_]; first | done | omega))) only [go_sem, Nat.reduceEqDiff, Nat.reduceAdd, ↓reduceIte, t1, t7, hlt, ab_.cells]
  refine aa_.call (hrd _) ?_
  cases hr : bC_ es[k]
  case true =>
   have ht := sK_ hr
   have hAp : bE_ y es[k] = if bA_ (bm_ y es[k]) es[k] = true then (y, 0) else (⟨[]⟩, 5) := by rw [bE_, if_neg (by rw [ht]; simp)]
   have hag : aL_ Tryz.prog 83 [.agg (ad_.cells y), .agg [.val (.int .i64 es[k].Kind), .val (.string es[k].Name), .list 0 1 (es[k].Subs.map aj_), .val (.string es[k].Value), .val (.int .i64 es[k].N)]] (.agg (ab_.cells (bm_ y es[k]))) (go_ es[k]) := jR_ y es[k] (c7_ hy) hzk hy hnk hr
   have hse : ∀ X, aa_ Tryz.prog 82 [.agg (ab_.cells (bm_ y es[k])), .agg [.val (.int .i64 es[k].Kind), .val (.string es[k].Name), .list 0 1 (es[k].Subs.map aj_), .val (.string es[k].Value), .val (.int .i64 es[k].N)]] X (.val (.bool (bA_ (bm_ y es[k]) es[k]))) := fun X => jd_ (bm_ y es[k]) es[k] (k2_ hy hnk hzk) X
   simp (disch := (first | omega | (simp only [ls_, la_, lc_, ln_]; first | done | omega))) only [go_sem, Nat.reduceEqDiff, Nat.reduceAdd, ↓reduceIte, t1, t2, t7, o0, ab_.cells]
   refine ev_ hag (a5_.cons hA (a5_.cons (bU_.same rfl) a5_.nil)) (fun av H1 m1 F1 q1 => ?_)
   obtain ⟨l, v, kk, rfl⟩ := q1
   have l1 := m1.len
   have p0 := m1.at o0
   have p1 := m1.at o1
   have hM1 : aJ_ H H1 := hM.trans m1
   skip
   simp (disch := (first | omega | (simp only [ls_, la_, lc_, ln_]; first | done | omega))) only [go_sem, Nat.reduceEqDiff, Nat.reduceAdd, ↓reduceIte, t1, t7, ab_.cells]
   refine aa_.call (aa_.anyR rfl hse (a5_.cons F1.tree.arg.any (a5_.cons (bU_.same rfl) a5_.nil))) ?_
   cases hq : bA_ (bm_ y es[k]) es[k]
   ·rw [hq] at hAp
    have hc : ¬ (bE_ y es[k]).2 = 0 := by rw [hAp]; simp
    rw [hS, hB_ hlt hc, hAp] at hk
    simp (disch := (first | omega | (simp only [ls_, la_, lc_, ln_]; first | done | omega))) only [aH_, go_sem, Nat.reduceEqDiff, ↓reduceIte, t4, t7, p1, bX_, Option.map_some, c4_]
    exact hk _ _ (hM1.set (by omega)) rfl (.inr (hnil _ (hM1.set (by omega))))
   ·rw [hq] at hAp
    have hc : (bE_ y es[k]).2 = 0 := by rw [hAp]; rfl
    have hA1 : (bE_ y es[k]).1 = y := by rw [hAp]; rfl
    simp (disch := (first | omega | (simp only [ls_, la_, lc_, ln_]; first | done | omega))) only [go_sem, Nat.reduceEqDiff, ↓reduceIte, t7]
    exact ⟨es.length - (k + 1), by omega, hJ _ _ _ ⟨k + 1, y, by simp [upd, t1], by simp [upd, t2], by simp [upd, t4], by simp [upd], hM1, p1, T.keep (fun z q1 q2 q3 => m1.kept z q2) l1, hy, by rw [hS, hE_ hlt hc, hA1], rfl, by omega⟩⟩
  case false =>
   have ht := uV_ hnk hr
   have hAp : bE_ y es[k] = bT_ y (dL_ es[k]) := by rw [bE_, if_pos ht]
   have htn : aL_ Tryz.prog 84 [.agg (ad_.cells y), .agg [.val (.int .i64 es[k].Kind), .val (.string es[k].Name), .list 0 1 (es[k].Subs.map aj_), .val (.string es[k].Value), .val (.int .i64 es[k].N)]] (e4_ (bE_ y es[k])) hH_ := by
    rw [hAp]; exact j5_ y es[k] hy hnk ht hzk
   simp (disch := (first | omega | (simp only [ls_, la_, lc_, ln_]; first | done | omega))) only [go_sem, Nat.reduceEqDiff, Nat.reduceAdd, ↓reduceIte, t1, t2, t7, o0, ab_.cells]
   refine ev_ htn (a5_.cons hA (a5_.cons (bU_.same rfl) a5_.nil)) (fun av H1 m1 F1 q1 => ?_)
   obtain ⟨b, cb, v, rfl⟩ := q1
   obtain ⟨G, hv⟩ := F1.two
   simp only [AV.val.injEq, Value.int.injEq, true_and] at hv
   subst hv
   have l1 := m1.len
   have cb' := cb
   simp only [AV.cell, Value.oneCell'] at cb'
   have p0 := m1.at o0
   have p1 := m1.at o1
   have hM1 : aJ_ H H1 := hM.trans m1
   skip
   by_cases hc : (bE_ y es[k]).2 = 0
   ·simp (disch := (first | omega | (simp only [ls_, la_, lc_, ln_]; first | done | omega))) only [aA_, aP_, go_sem, Nat.reduceEqDiff, Nat.reduceAdd, ↓reduceIte, t1, t2, t7, p0, cb', hc, ab_.cells]
    refine ⟨es.length - (k + 1), by omega, hJ _ _ _ ⟨k + 1, (bE_ y es[k]).1, by simp [upd, t1], by simp [upd, t2], by simp [upd, t4], by simp [upd], ?_, ?_, ?_, kw_ hy hnk, by rw [hS, hE_ hlt hc], rfl, by omega⟩⟩
    ·first | exact (hM1.add _).set (by omega) | exact ((hM1.add _).set (by omega)).set (by omega) | exact (hM1.set (by omega)).add _
    ·(repeat (first | rw [ar_ (by omega)] | rw [aA_ (by first | omega | (simp only [ls_, la_, lc_, ln_]; omega))])); exact p1
    ·refine ⟨b, ?_, cb, .inr ((G.tree.keep fun z q1 q2 => by (repeat (first | rw [ar_ (by omega)] | rw [aA_ (by first | omega | (simp only [ls_, la_, lc_, ln_]; omega))]))).widen (by omega) (by simp))⟩
     first | exact aH_ (by simp; omega) | (rw [ar_ (by omega)]; exact aH_ (by simp; omega)) | (rw [aA_ (by simp; omega)]; exact aH_ (by omega))
   ·have hc' : ((bE_ y es[k]).2 = 0) = False := eq_false hc
    rw [hS, hB_ hlt hc] at hk
    simp (disch := (first | omega | (simp only [ls_, la_, lc_, ln_]; first | done | omega))) only [aH_, aA_, aP_, go_sem, Nat.reduceEqDiff, Nat.reduceAdd, ↓reduceIte, t1, t2, t4, t7, p0, p1, cb', hc', ab_.cells, bX_, Option.map_some, c4_]
    have hM2 : ∀ r : Row, aJ_ H (H1 ++ [r]) := fun r => hM1.add _
    refine hk _ _ ?_ rfl (.inr (hnil _ ?_))
    all_goals first | exact (hM2 _).set (by omega) | exact ((hM2 _).set (by omega)).set (by omega) | exact hM2 _
 ·rw [hS, k3_ (by omega)] at hk
  simp (disch := (first | omega | (simp only [ls_, la_, lc_, ln_]; first | done | omega))) only [aH_, go_sem, Nat.reduceEqDiff, ↓reduceIte, t1, t2, t4, t7, o0, o1, ca', hlt, c4_]
  refine hk _ _ (hM.set (by omega)) ca ?_
  rcases hF with q | q
  ·exact .inl q
  ·exact .inr ((q.keep fun z q1 q2 => ar_ (by omega)).widen (by omega) (by simp))
def c44 : LC :=
 .seq (.ops [.s 1 (.box 30 (.tmp 0)), .s 2 (.alloc 30 (.agg #[.slice none 0 0]))]) (.seq (.ops [.s 6 (.build (.agg #[.slice none 0 0]) [(0, 1)] []), .s 3 (.alloc 30 (.agg #[.slice none 0 0])), .st 1 3 6]) (.seq (.seq
 (.ops [.ki 4 0]) (.block 0 (.ghost (.loop (.seq (.seq (.ops [.m 7 4, .fa 8 0 1, .ln 9 8, .ll 10 9, .bb 11 .lss false 7 10]) (.cond (.tmp 11) .skip (.exit 0))) (.seq (.block 1 (.seq (.ops [.fa 14 0 1, .ln 15 14, .m 16 4,
 .ia 17 3 15 16, .ld 18 3 17, .s 5 (.alloc 112 (.agg #[.string ⟨#[]⟩, .slice none 0 0, .string ⟨#[]⟩])), .st 3 5 18]) (.seq (.ops [.fa 19 1 5, .ln 20 19, .c1 21 85 20, .fa 22 1 5, .st 1 22 21]) (.ops [.fa 23 0 3, .ln 24
 23, .ld 25 3 5, .s 26 (.buildSlice 112 3 (.agg #[.string ⟨#[]⟩, .slice none 0 0, .string ⟨#[]⟩]) 1 [(0, .tmp 25)]), .ap 27 112 3 56 24 26, .fa 28 0 3, .st 1 28 27])))) (.ops [.m 12 4, .bk 13 .add false 12 1, .m 4
 13]))))))) (.seq (.ops [.ld 29 1 3, .st 1 2 29]) .ret)))
def zT_ : LF := ⟨1, 30, c44, [.cell 2 (some 1)]⟩
theorem CC_ : at_ Tryz.prog Tryz.f44 zT_ := ah_
theorem kn_ (x : ad_) (hx : ad_.sz x ≤ 1048576) : aL_ Tryz.prog 44 [.agg (ad_.cells x)] (.agg (ad_.cells x)) (fun a => ∃ l, a = .agg [.own l x.Nodes.length]) := by
 refine bW_ mixed Tryz.func44 CC_ rfl (fun h0 => ?_)
 have hs := ad_.sz_Nodes hx
 have hl := aw_ hs
 have hm : ∀ e ∈ x.Nodes, ac_.sz e ≤ 1048576 := fun e he => by have := cs_ (f := ac_.sz) he; omega
 simp (disch := omega) only [zT_, c44, ad_.cells, bX_, Option.map_some, go_sem, Nat.reduceEqDiff, Nat.reduceAdd, ↓reduceIte]
 refine kv_ (h0 ++ [⟨30, 1, [[.list 0 3 (x.Nodes.map ac_.cells)]]⟩, ⟨30, 1, [[.val (.slice none 0 0)]]⟩, ⟨30, 1, [[.own (h0.length + 3) 0]]⟩, ⟨112, 3, []⟩]) (fun t => n4_ (h0 ++ [⟨30, 1, [[.list 0 3 (x.Nodes.map ac_.cells)]]⟩, ⟨30, 1, [[.val (.slice none 0 0)]]⟩]) [] (.ty 30) 1 [] [] 112 3 (h0.length + 3) (by simp) (by simp) (by simp)) ?_
 refine aM_ (fun n t h => ∃ (k : Nat) (done : List (List AV)), t 1 = .ptr h0.length 1 0 0 ∧ t 2 = .ptr (h0.length + 1) 1 0 0 ∧ t 3 = .ptr (h0.length + 2) 1 0 0 ∧ t 4 = .val (.int .i64 k) ∧ aJ_ h0 h ∧
  h[h0.length]? = some ⟨30, 1, [[.list 0 3 (x.Nodes.map ac_.cells)]]⟩ ∧ h[h0.length + 1]? = some ⟨30, 1, [[.val (.slice none 0 0)]]⟩ ∧ h[h0.length + 2]? = some ⟨30, 1, [[.own (h0.length + 3) k]]⟩ ∧
  cC_ (h0.length + 3) h 112 3 done ((x.Nodes.take k).map ac_.cells) ∧ done.length = k ∧ n = x.Nodes.length - k ∧ k ≤ x.Nodes.length) x.Nodes.length ?_ ?_
 ·exact ⟨0, [], rfl, rfl, rfl, rfl, aJ_.app _ _, by rw [cw_]; rfl, by rw [b9_]; rfl, by rw [b9_]; rfl, cC_.zero (by rw [b9_]; rfl), rfl, rfl, Nat.zero_le _⟩
 rintro J hJ n t h ⟨k, done, t1, t2, t3, t4, hM, o0, o1, o2, hG, hd, rfl, hk⟩
 have o3 := hG.row
 have ml := hM.len
 have gl := hG.lt
 by_cases hlt : k < x.Nodes.length
 ·have hsl := aw_ (ac_.sz_Subs (hm _ (List.getElem_mem hlt)))
  simp (disch := (first | omega | (simp only [ls_, la_, lc_, ln_]; first | done | omega))) only [aP_, go_sem, Nat.reduceEqDiff, Nat.reduceAdd, ↓reduceIte, t1, t4, o0, hlt, ac_.cells]
  refine bD_ (dR_ x.Nodes[k].Subs hsl) (fun av H1 m1 F1 q1 => ?_)
  obtain ⟨l, rfl⟩ := q1
  have l1 := m1.len
  simp only [la_, lc_, ln_] at l1
  have pN : H1[h.length]? = some ⟨112, 3, [[.val (.string x.Nodes[k].Name), .list 0 1 (x.Nodes[k].Subs.map aj_), .val (.string x.Nodes[k].Value)]]⟩ := m1.at (by first | exact aP_ rfl | exact aH_ (by simp))
  have keep : ∀ z, z < h.length → H1[z]? = h[z]? := fun z q => by
   rw [m1.kept z (by simp; omega)]; (repeat (first | rw [ar_ (by omega)] | rw [aA_ (by first | omega | (simp only [ls_, la_, lc_, ln_]; omega))]))
  have p0 := (keep _ (by omega)).trans o0
  have p1 := (keep _ (by omega)).trans o1
  have p2 := (keep _ (by omega)).trans o2
  have p3 := (keep _ (by omega)).trans o3
  simp (disch := (first | omega | (simp only [ls_, la_, lc_, ln_]; first | done | omega))) only [ar_, aH_, aA_, aP_, ls_, go_sem, Nat.reduceEqDiff, Nat.reduceAdd, Nat.reduceLeDiff, ↓reduceIte, t3, t4, p2, p3, pN, hd]
  repeat (refine And.intro (by first | omega | (exact strs_cellv _) | assumption | (simp; done)) ?_)
  refine ⟨x.Nodes.length - (k + 1), by omega, hJ _ _ _ ⟨k + 1, done ++ [[.val (.string x.Nodes[k].Name), .own l x.Nodes[k].Subs.length, .val (.string x.Nodes[k].Value)]], by simp [upd, t1], by simp [upd, t2], by simp [upd, t3], by simp [upd], ?_, ?_, ?_, ?_, ?_, by simp [hd], rfl, by omega⟩⟩
  ·exact ⟨by simp; omega, fun z q => by (repeat (first | rw [ar_ (by omega)] | rw [aA_ (by first | omega | (simp only [ls_]; omega))])); rw [keep z (by omega)]; exact hM.kept z q⟩
  ·(repeat (first | rw [ar_ (by omega)] | rw [aA_ (by first | omega | (simp only [ls_]; omega))])); exact p0
  ·(repeat (first | rw [ar_ (by omega)] | rw [aA_ (by first | omega | (simp only [ls_]; omega))])); exact p1
  ·first | exact aH_ (by simp; omega) | ((repeat (first | rw [ar_ (by omega)] | rw [aA_ (by first | omega | (simp only [ls_, la_, lc_, ln_]; omega))])); exact aH_ (by simp; omega))
  ·rw [List.take_succ_eq_append_getElem hlt, List.map_append]
   refine hG.step (H1 := H1.set h.length ⟨112, 3, [[.val (.string x.Nodes[k].Name), .own l x.Nodes[k].Subs.length, .val (.string x.Nodes[k].Value)]]⟩) ((al_.val _ (al_.cons (F1.tree.keep fun y q1 q2 => ar_ (by simp at q1; omega)) (al_.val _ (al_.nil _ _ _)) ⟨by simp; omega, Nat.le_refl _⟩)).widen (by simp) (by simp)) (by simp; omega) (fun y q1 q2 => by rw [ar_ (by omega)]; exact keep y q2) (by simp) (fun y q1 q2 => by simp only [ls_] at q2; (repeat (first | rw [ar_ (by omega)] | rw [aA_ (by first | omega | (simp only [ls_]; omega))])); try rfl) ?_
   first | exact aH_ (by simp; omega) | ((repeat (first | rw [ar_ (by omega)] | rw [aA_ (by first | omega | (simp only [ls_, la_, lc_, ln_]; omega))])); exact aH_ (by simp; omega))
 ·simp (disch := (first | omega | (simp only [ls_, la_, lc_, ln_]; first | done | omega))) only [aH_, go_sem, Nat.reduceEqDiff, ↓reduceIte, t1, t2, t3, t4, o0, o1, o2, hlt]
  have e : k = x.Nodes.length := by omega
  subst e
  rw [List.take_length] at hG
  have g2 := hG.more (H' := h.set (h0.length + 1) ⟨30, 1, [[.own (h0.length + 3) x.Nodes.length]]⟩) (by simp) (fun y q1 q2 => by rw [List.getElem?_set_ne (by omega)])
  exact ⟨⟨hM.set (by omega), (ax_.agg (al_.cons (g2.done hd) (al_.nil _ _ _) ⟨Nat.le_of_lt g2.lt, Nat.le_refl _⟩)).widen (by omega) (Nat.le_refl _)⟩, _, rfl⟩
theorem t3_ {H X : List Row} {b : AV} {x y : ad_} (h : (b = .list 0 3 (x.Nodes.map ac_.cells) ∧ y = x) ∨ ax_ H.length X.length X (.agg [b]) (.agg (ad_.cells y))) {X' : List Row} (m : ∀ z, H.length ≤ z → z < X.length → X'[z]? = X[z]?) : bU_ X' (.agg [b]) (.agg (ad_.cells y)) := by
 rcases h with ⟨rfl, rfl⟩ | q
 ·exact bU_.same rfl
 ·exact (q.keep fun z q1 q2 => m z q1 q2).arg.any
def c10 : LC :=
 .seq (.ops [.s 2 (.box 30 (.tmp 0)), .s 4 (.alloc 30 (.agg #[.slice none 0 0])), .ki 5 0, .ki 6 0]) (.seq (.seq (.ops [.ld 10 1 2, .c1 11 41 10, .nt 12 11, .m 13 12, .g 14 13 false (.mov (.tmp 1)), .g 15 13 false (.call
 42 [.tmp 14]), .g 16 13 false (.un .not (.tmp 15)), .pt 17 13 16]) (.cond (.tmp 17) (.seq (.ops [.s 18 (.build (.agg #[.slice none 0 0]) [(0, 1)] []), .st 1 4 18, .ki 5 0, .ki 6 1]) .ret) .skip)) (.seq (.ops [.ld 20 1 2,
 .m 21 1, .c2 22 43 20 21, .m 19 22, .ex 23 19 0, .ex 24 19 1, .ex 25 19 2, .s 7 (.alloc 30 (.agg #[.slice none 0 0])), .st 1 7 23, .m 8 24, .m 9 25]) (.seq (.ops [.ld 26 1 7, .c1 27 44 26, .m 28 8, .m 29 9, .st 1 4 27,
 .m 5 28, .m 6 29]) .ret)))
def Bs_ : LF := ⟨2, 30, c10, [.cell 4 (some 1), .tmp 5, .tmp 6]⟩
theorem CF_ : at_ Tryz.prog Tryz.f10 Bs_ := ah_
theorem kS_ (x : ad_) (es : List ab_) (hx : ad_.sz x ≤ 1048576) (he : au_ ab_.sz es ≤ 1048576) : aL_ Tryz.prog 10 [.agg (ad_.cells x), .list 0 5 (es.map ab_.cells)] (kQ_ (bl_ x es)) s2_ := by
 refine bW_ mixed Tryz.func10 CF_ rfl (fun h0 => ?_)
 have htr : ∀ H, aa_ Tryz.prog 41 [.agg [.list 0 3 (x.Nodes.map ac_.cells)]] H (.val (.bool (aK_ x))) := fun H => cA_ x hx H
 have hno : ∀ H, aa_ Tryz.prog 42 [.list 0 5 (es.map ab_.cells)] H (.val (.bool (c1_ es))) := fun H => lt_ es he H
 simp (disch := (first | omega | (simp only [ls_, la_, lc_, ln_]; first | done | omega))) only [aP_, go_sem, Nat.reduceEqDiff, ↓reduceIte, Bs_, c10, ad_.cells]
 refine aa_.call (htr _) ?_
 by_cases q1 : aK_ x = true
 case neg =>
  have q1' : aK_ x = false := by simpa using q1
  have hR : bl_ x es = (⟨[]⟩, 0, 1) := by simp [bl_, q1']
  simp (disch := (first | omega | (simp only [ls_, la_, lc_, ln_]; first | done | omega))) only [cU_, go_sem, Nat.reduceEqDiff, ↓reduceIte, q1', bX_, Option.map_some, c4_]
  rw [hR]
  exact ⟨⟨by first | exact aJ_.app _ _ | exact (aJ_.app _ _).set (by omega), ju_ (jB_ (by simp)) (by simp) _ _⟩, _, rfl, _, _, rfl⟩
 simp (disch := (first | omega | (simp only [ls_, la_, lc_, ln_]; first | done | omega))) only [go_sem, Nat.reduceEqDiff, ↓reduceIte, q1]
 refine aa_.call (hno _) ?_
 by_cases q2 : c1_ es = true
 case neg =>
  have q2' : c1_ es = false := by simpa using q2
  have hR : bl_ x es = (⟨[]⟩, 0, 1) := by simp [bl_, q2']
  simp (disch := (first | omega | (simp only [ls_, la_, lc_, ln_]; first | done | omega))) only [cU_, go_sem, Nat.reduceEqDiff, ↓reduceIte, q2', bX_, Option.map_some, c4_]
  rw [hR]
  exact ⟨⟨by first | exact aJ_.app _ _ | exact (aJ_.app _ _).set (by omega), ju_ (jB_ (by simp)) (by simp) _ _⟩, _, rfl, _, _, rfl⟩
 have hR : bl_ x es = b6_ x es 0 := by simp [bl_, q1, q2]
 have hz : ad_.sz (b6_ x es 0).1 ≤ 1048576 := by rw [← hR]; exact l2_ x es
 rw [hR]
 simp (disch := (first | omega | (simp only [ls_, la_, lc_, ln_]; first | done | omega))) only [aP_, go_sem, Nat.reduceEqDiff, ↓reduceIte, q2]
 refine lP_ x es rfl (fun X _ => bU_.same rfl) q1 (ki_ q2).2 he (fun b H1 m1 cb hb => ?_)
 have l1 := m1.len
 have cb' := cb
 simp only [AV.cell, Value.oneCell'] at cb'
 have p1 := m1.at (i := h0.length + 1) (by rw [b9_]; rfl)
 simp (disch := (first | omega | (simp only [ls_, la_, lc_, ln_]; first | done | omega))) only [aP_, go_sem, Nat.reduceEqDiff, ↓reduceIte, cb']
 refine ev_ (kn_ _ hz) (a5_.cons (t3_ hb fun z q1 q2 => by (repeat (first | rw [ar_ (by omega)] | rw [aA_ (by first | omega | (simp only [ls_, la_, lc_, ln_]; omega))]))) a5_.nil) (fun av H2 m2 F2 q3 => ?_)
 obtain ⟨l, rfl⟩ := q3
 have l2 := m2.len
 simp only [la_, lc_, ln_] at l1 l2
 have p2 : H2[h0.length + 1]? = some ⟨30, 1, [[.val (.slice none 0 0)]]⟩ := m2.at (by (repeat (first | rw [ar_ (by omega)] | rw [aA_ (by first | omega | (simp only [ls_, la_, lc_, ln_]; omega))])); exact p1)
 have hM2 : aJ_ h0 H2 := ⟨by omega, fun z q => by
  rw [m2.kept z (by simp; omega)]; (repeat (first | rw [ar_ (by omega)] | rw [aA_ (by first | omega | (simp only [ls_, la_, lc_, ln_]; omega))]))
  rw [m1.kept z (by simp; omega)]; (repeat (first | rw [ar_ (by omega)] | rw [aA_ (by first | omega | (simp only [ls_, la_, lc_, ln_]; omega))]))⟩
 simp (disch := (first | omega | (simp only [ls_, la_, lc_, ln_]; first | done | omega))) only [aH_, go_sem, Nat.reduceEqDiff, ↓reduceIte, p2, c4_]
 exact ⟨⟨hM2.set (by omega), ju_ ((F2.tree.keep fun z q _ => ar_ (by simp at q; omega)).widen (by simp; omega) (by simp)) (by simp; omega) _ _⟩, _, rfl, _, _, rfl⟩
theorem iH_ (x : ad_) (es : List ab_) (hx : ad_.sz x ≤ 1048576) (he : au_ ab_.sz es ≤ 1048576) (h : List Row) : aa_ Tryz.prog 10 [.agg (ad_.cells x), .list 0 5 (es.map ab_.cells)] h (kQ_ (bl_ x es)) := (kS_ x es hx he).pure rfl h
end Go.Proofs.YtfplhbjggecnpaaGreatDoor
