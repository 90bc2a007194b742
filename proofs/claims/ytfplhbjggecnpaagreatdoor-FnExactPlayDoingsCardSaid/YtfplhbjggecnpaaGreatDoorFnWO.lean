/-
 Contracts of functions of this program, over abstract values. Conditions: as each theorem says.
-/
import Derived.Test.YtfplhbjggecnpaaGreatDoorFnWC
namespace Go.Proofs.YtfplhbjggecnpaaGreatDoor
open Go.AW
set_option linter.unusedVariables false
set_option linter.unusedSimpArgs false
set_option maxRecDepth 4000
theorem oQ_ {x : ad_} {c : a2_} (h : c.Kind = 1) : (bX_ x c).2 = dq_ x c.Name c.Subs ∧ (dq_ x c.Name c.Subs = 0 → (bX_ x c).1 = ⟨dH_ x.Nodes c.Name c.Subs c.Value⟩) := by
 unfold bX_ dq_
 rw [if_pos h]
 split
 ·exact ⟨rfl, fun _ => rfl⟩
 ·exact ⟨rfl, fun q => by cases q⟩
def c95 : LC :=
 .seq (.ops [.s 3 (.box 126 (.tmp 1)), .ki 4 0]) (.seq (.seq (.ops [.fa 5 0 3, .ln 6 5, .bk 7 .eql false 6 1]) (.cond (.tmp 7) (.seq (.ops [.m 8 0, .fa 9 1 3, .ln 10 9, .fa 11 2 3, .ln 12 11, .fa 13 3 3, .ln 14 13, .s 15
 (.call 145 [.tmp 8, .tmp 10, .tmp 12, .tmp 14]), .m 4 15]) .ret) .skip)) (.seq (.ops [.m 16 0, .fa 17 1 3, .ln 18 17, .fa 19 2 3, .ln 20 19, .c3 21 146 16 18 20]) (.seq (.ops [.ki 4 0]) .ret)))
def vo_ : LF := ⟨2, 22, c95, [.tmp 4]⟩
theorem DC_ : at_ Tryz.prog Tryz.f95 vo_ := ai_
theorem jR_ {L lo : Nat} {H0 H : List Row} {x : ad_} {sa : AV} (B : eb_ L lo H0 x) (mH : aJ_ H0 H) (c : a2_) (hx : aL_ x = true) (hs : au_ ByteArray.size c.Subs ≤ 1048576) (hsh : sa = .list 0 1 (c.Subs.map al_) ∨ ∃ ls k, sa = .own ls k) (hsa : ∀ H' : List Row, (∀ y, H0.length ≤ y → y < H.length → H'[y]? = H[y]?) → ca_ H' sa (.list 0 1 (c.Subs.map al_))) {K : AV → List Row → Prop}
 (hk : ∀ H' : List Row, H.length ≤ H'.length → (∀ y, y < lo → H'[y]? = H[y]?) → ((bX_ x c).2 = 0 → eb_ L lo H' (bX_ x c).1) → K (.val (.int .i64 (bX_ x c).2)) H') :
 callSem Tryz.prog 95 [.ptr L 1 0 0, .agg [.val (.int .i64 c.Kind), .val (.string c.Name), sa, .val (.string c.Value)]] H K := by
 refine bf_ mixed Tryz.func95 DC_ (ch_ rfl ?_)
 have hlow := B.low
 have mlen := mH.len
 have csa : sa.cell = true := by rcases hsh with rfl | ⟨_, _, rfl⟩ <;> rfl
 have csa' := csa
 simp only [AV.cell, Value.oneCell'] at csa'
 have hsa' : ∀ r : Row, ∀ H' : List Row, (∀ y, H0.length ≤ y → y < (H ++ [r]).length → H'[y]? = (H ++ [r])[y]?) → ca_ H' sa (.list 0 1 (c.Subs.map al_)) := fun r H' h => hsa H' fun y q1 q2 => by rw [h y q1 (by simp; omega)]; exact ay_ q2
 by_cases hk1 : c.Kind = 1
 ·have hk1' : (c.Kind = 1) = True := eq_true hk1
  obtain ⟨e1, e2⟩ := oQ_ (x := x) hk1
  rw [e1] at hk
  simp (disch := (first | omega | (simp only [ls_, la_, lc_, ln_]; first | done | omega))) only [aQ_, go_sem, Nat.reduceEqDiff, Nat.reduceAdd, reduceCtorEq, ↓reduceIte, vo_, c95, csa', hk1']
  refine ld_ B (mH.add _) c.Name c.Subs c.Value hx hs (hsa' _) (fun H' k1 k2 k3 => ?_)
  simp (disch := (first | omega | (simp only [ls_, la_, lc_, ln_]; first | done | omega))) only [go_sem, ↓reduceIte]
  exact hk H' (by simp at k1; omega) (fun y q => by rw [k2 y q]; exact ay_ (by omega)) (fun q => by rw [e2 q]; exact k3 q)
 ·have hk1' : (c.Kind = 1) = False := eq_false hk1
  have e1 : bX_ x c = (⟨cP_ x.Nodes c.Name c.Subs⟩, 0) := by rw [bX_, if_neg hk1]
  rw [e1] at hk
  simp (disch := (first | omega | (simp only [ls_, la_, lc_, ln_]; first | done | omega))) only [aQ_, go_sem, Nat.reduceEqDiff, Nat.reduceAdd, reduceCtorEq, ↓reduceIte, vo_, c95, csa', hk1']
  obtain ⟨l, m, ts, b0, d⟩ := B
  have hl0 := b0.at'.lt
  have hr : ∀ r : Row, (H ++ [r]).length = H.length + 1 := fun r => by simp
  have b := fun r : Row => b0.more (mH.add [r])
  obtain ⟨a, o, hS⟩ := (b _).box
  have hlo := (b0.at'.lows l List.mem_cons_self).1
  refine ko_ (lo := lo) (l := L) (N := 1) (k := 0) (off := 0) (pre := []) (post := []) (es := [[a]]) (a := a) c.Name c.Subs hsh (fun H' hH => hsa' _ H' fun y q1 q2 => hH y q2 (by omega)) (ad_.sz_Nodes (cV_ hx)) o rfl rfl rfl hS (b _).at' b0.out d (fun H' m' us' k1 k2 k3 k4 k5 k6 k7 => ?_)
  simp (disch := (first | omega | (simp only [ls_, la_, lc_, ln_]; first | done | omega))) only [go_sem, ↓reduceIte]
  exact hk H' (by simp at k1; omega) (fun y q => by rw [k2 y (by simp; omega) (by omega) (by omega)]; exact ay_ (by omega)) (fun _ => ⟨l, m', us', ⟨⟨_, k7, .inl rfl⟩, k3, fun q => b0.out (k5 L q), b0.lt⟩, k6⟩)
def c50 : LC :=
 .seq (.ops [.s 3 (.box 79 (.tmp 1)), .ki 4 0]) (.seq (.seq (.ops [.ld 5 5 3, .c1 6 94 5]) (.cond (.tmp 6) (.seq (.ops [.m 7 0, .ld 8 5 3, .c1 9 96 8, .c2 10 95 7 9, .m 4 10]) .ret) .skip)) (.seq (.seq (.gops [.m 11 0,
 .nc 12 11, .ld 13 1 12, .ld 14 5 3, .ld 16 5 3] [(.c2 15 98 13 14, [.ld 16 5 3]), (.c2 17 97 15 16, []), (.nt 18 17, [])]) (.cond (.tmp 18) (.seq (.ops [.ki 4 5]) .ret) .skip)) (.seq (.ops [.ki 4 0]) .ret)))
def zs_ : LF := ⟨2, 19, c50, [.tmp 4]⟩
theorem Dj_ : at_ Tryz.prog Tryz.f50 zs_ := rm_
theorem j8_ {L lo : Nat} {H : List Row} {x : ad_} (B : eb_ L lo H x) (e : ac_) (hx : aL_ x = true) (hn : by_ e = true) (hz : ac_.sz e ≤ 1048576) {K : AV → List Row → Prop}
 (hk : ∀ H' : List Row, H.length ≤ H'.length → (∀ y, y < lo → H'[y]? = H[y]?) → ((bF_ x e).2 = 0 → eb_ L lo H' (bF_ x e).1) → K (.val (.int .i64 (bF_ x e).2)) H') :
 callSem Tryz.prog 50 [.ptr L 1 0 0, .agg (ac_.cells e)] H K := by
 refine bf_ mixed Tryz.func50 Dj_ (ch_ rfl ?_)
 have hlow := B.low
 have htu : ∀ H, aa_ Tryz.prog 94 [.agg [.val (.int .i64 e.Kind), .val (.string e.Name), .list 0 1 (e.Subs.map al_), .val (.string e.Value), .val (.int .i64 e.N)]] H (.val (.bool (b4_ e))) := fun H => mv_ e H
 simp (disch := (first | omega | (simp only [ls_, la_, lc_, ln_]; first | done | omega))) only [aQ_, go_sem, Nat.reduceEqDiff, Nat.reduceAdd, ↓reduceIte, zs_, c50, ac_.cells]
 refine aa_.call (htu _) ?_
 cases ht : b4_ e
 case true =>
  have hA : bF_ x e = bX_ x (dT_ e) := by rw [bF_, if_pos ht]
  rw [hA] at hk
  have hch : aN_ Tryz.prog 96 [.agg [.val (.int .i64 e.Kind), .val (.string e.Name), .list 0 1 (e.Subs.map al_), .val (.string e.Value), .val (.int .i64 e.N)]] (.agg (a2_.cells (dT_ e))) (fun a => ∃ l, a = .agg [.val (.int .i64 (dT_ e).Kind), .val (.string e.Name), .own l e.Subs.length, .val (.string e.Value)]) := j6_ e hz
  simp (disch := (first | omega | (simp only [ls_, la_, lc_, ln_]; first | done | omega))) only [aQ_, go_sem, Nat.reduceEqDiff, Nat.reduceAdd, reduceCtorEq, ↓reduceIte]
  refine bE_ hch (fun av H1 m1 F1 q1 => ?_)
  obtain ⟨l, rfl⟩ := q1
  have l1 := m1.len
  simp only [la_, lc_, ln_] at l1
  have F2 := F1.tree.unagg.rest.rest.head
  simp (disch := (first | omega | (simp only [ls_, la_, lc_, ln_]; first | done | omega))) only [go_sem, Nat.reduceEqDiff, ↓reduceIte]
  refine jR_ B ((aJ_.app H _).trans m1) (dT_ e) hx (ac_.sz_Subs hz) (.inr ⟨l, _, rfl⟩) (fun H' h => (F2.keep fun y q1 q2 => h y (by simp at q1; omega) q2).arg) (fun H' k1 k2 k3 => ?_)
  simp (disch := (first | omega | (simp only [ls_, la_, lc_, ln_]; first | done | omega))) only [go_sem, ↓reduceIte]
  refine hk H' (by omega) (fun y q => ?_) k3
  rw [k2 y q, m1.kept y (by simp; omega)]; exact ay_ (by omega)
 case false =>
  obtain ⟨a, o, ca, hF⟩ := B.arg
  have hr := p8_ hn ht
  have hA : bF_ x e = if bB_ (bm_ x e) e = true then (x, 0) else (⟨[]⟩, 5) := by rw [bF_, if_neg (by rw [ht]; simp)]
  have hag : aN_ Tryz.prog 98 [.agg (ad_.cells x), .agg [.val (.int .i64 e.Kind), .val (.string e.Name), .list 0 1 (e.Subs.map al_), .val (.string e.Value), .val (.int .i64 e.N)]] (.agg (ac_.cells (bm_ x e))) (gL_ e) := iV_ x e (cV_ hx) hz hx hn hr
  have hse : ∀ H, aa_ Tryz.prog 97 [.agg (ac_.cells (bm_ x e)), .agg [.val (.int .i64 e.Kind), .val (.string e.Name), .list 0 1 (e.Subs.map al_), .val (.string e.Value), .val (.int .i64 e.N)]] H (.val (.bool (bB_ (bm_ x e) e))) := fun H => lf_ (bm_ x e) e (lx_ hx hn hz) H
  simp (disch := (first | omega | (simp only [ls_, la_, lc_, ln_]; first | done | omega))) only [ay_, aQ_, go_sem, Nat.reduceEqDiff, Nat.reduceAdd, reduceCtorEq, ↓reduceIte, o]
  refine dV_ hag (a1_.cons (hF.keep fun y _ q => ay_ q).arg.any (a1_.cons (bG_.same rfl) a1_.nil)) (fun av H1 m1 F1 q1 => ?_)
  obtain ⟨l, v, k, rfl⟩ := q1
  have l1 := m1.len
  simp only [la_, lc_, ln_] at l1
  have o1 := m1.at (k1_ H _)
  have B1 := B.more ((aJ_.app H _).trans m1)
  simp (disch := (first | omega | (simp only [ls_, la_, lc_, ln_]; first | done | omega))) only [go_sem, Nat.reduceEqDiff, Nat.reduceAdd, ↓reduceIte, o1]
  refine aa_.call (aa_.anyR rfl hse (a1_.cons F1.tree.arg.any (a1_.cons (bG_.same rfl) a1_.nil))) ?_
  cases hq : bB_ (bm_ x e) e
  ·rw [hA, if_neg (by rw [hq]; simp)] at hk
   simp (disch := (first | omega | (simp only [ls_, la_, lc_, ln_]; first | done | omega))) only [go_sem, ↓reduceIte]
   exact hk H1 (by omega) (fun y q => by rw [m1.kept y (by simp; omega)]; exact ay_ (by omega)) (fun q => by cases q)
  ·rw [hA, if_pos hq] at hk
   simp (disch := (first | omega | (simp only [ls_, la_, lc_, ln_]; first | done | omega))) only [go_sem, ↓reduceIte]
   exact hk H1 (by omega) (fun y q => by rw [m1.kept y (by simp; omega)]; exact ay_ (by omega)) (fun _ => B1)
theorem cx_ {t : Nat → AV} {h : List Row} (a s u : Nat) (n : Option Nat) (K : AV → List Row → Prop) : cE_ [.cell a n, .tmp s, .tmp u] K .ret t h = match as_ t h (.load n (.tmp a)) with | some av => K (.tup [av, t s, t u]) h | none => False := by
 simp only [cE_, dO_, List.mapM_cons, List.mapM_nil]
 cases as_ t h (.load n (.tmp a)) <;> simp [c4_]
abbrev jd_ (p : ad_ × Int × Int) : AV := .tup [.agg (ad_.cells p.1), .val (.int .i64 p.2.1), .val (.int .i64 p.2.2)]
def pu_ (a : AV) : Prop := ∃ b, b.cell = true ∧ ∃ v v2, a = .tup [.agg [b], .val (.int .i64 v), .val (.int .i64 v2)]
abbrev fb_ (p : ad_ × Int) : AV := .tup [.agg (ad_.cells p.1), .val (.int .i64 p.2)]
def h1_ (a : AV) : Prop := ∃ b, b.cell = true ∧ ∃ v, a = .tup [.agg [b], .val (.int .i64 v)]
section
variable {lo hi : Nat} {H : List Row} {b : AV} {x : ad_}
theorem gT_ (hF : aA_ lo hi H (.agg [b]) (.agg (ad_.cells x))) (h : lo ≤ hi) (v v2 : Int) : aA_ lo hi H (.tup [.agg [b], .val (.int .i64 v), .val (.int .i64 v2)]) (jd_ (x, v, v2)) :=
 aA_.tup (an_.cons hF (an_.val _ (an_.val _ (an_.nil _ _ _))) ⟨h, Nat.le_refl _⟩)
theorem hs_ (hF : aA_ lo hi H (.agg [b]) (.agg (ad_.cells x))) (h : lo ≤ hi) (v : Int) : aA_ lo hi H (.tup [.agg [b], .val (.int .i64 v)]) (fb_ (x, v)) :=
 aA_.tup (an_.cons hF (an_.val _ (an_.nil _ _ _)) ⟨h, Nat.le_refl _⟩)
theorem hO_ (h : lo ≤ hi) : aA_ lo hi H (.agg [.val (.slice none 0 0)]) (.agg (ad_.cells ⟨[]⟩)) := (aA_.agg (an_.cons (aA_.mknil lo lo H 3) (an_.nil _ _ _) ⟨Nat.le_refl _, Nat.le_refl _⟩)).widen (Nat.le_refl _) h
end
def c13 : LC :=
 .seq (.ops [.s 2 (.box 30 (.tmp 0)), .s 4 (.alloc 30 (.agg #[.slice none 0 0])), .ki 5 0, .ki 6 0]) (.seq (.seq (.ops [.ld 11 1 2, .c1 12 47 11, .nt 13 12, .m 14 13, .g 15 14 false (.mov (.tmp 1)), .g 16 14 false (.call
 48 [.tmp 15]), .g 17 14 false (.un .not (.tmp 16)), .pt 18 14 17]) (.cond (.tmp 18) (.seq (.ops [.s 19 (.build (.agg #[.slice none 0 0]) [(0, 1)] []), .st 1 4 19, .ki 5 0, .ki 6 1]) .ret) .skip)) (.seq (.ops [.ld 20 1 2,
 .c1 21 49 20, .s 7 (.alloc 30 (.agg #[.slice none 0 0])), .st 1 7 21]) (.seq (.seq (.ops [.m 22 1, .ll 23 22, .ki 24 0]) (.block 0 (.loop (.seq (.ops [.bb 25 .lss false 24 23]) (.seq (.cond (.tmp 25) .skip (.exit 0))
 (.seq (.block 1 (.seq (.ops [.m 26 24, .ia 27 5 22 24, .ld 28 5 27, .s 9 (.alloc 79 (.agg #[.int .i64 0, .string ⟨#[]⟩, .slice none 0 0, .string ⟨#[]⟩, .int .i64 0])), .m 8 26, .st 5 9 28]) (.seq (.ops [.ld 29 5 9, .c2
 30 50 7 29, .m 10 30]) (.seq (.ops [.m 31 10, .bk 32 .neq false 31 0]) (.cond (.tmp 32) (.seq (.ops [.s 33 (.build (.agg #[.slice none 0 0]) [(0, 1)] []), .m 34 8, .m 35 10, .st 1 4 33, .m 5 34, .m 6 35]) .ret)
 .skip))))) (.ops [.bk 36 .add false 24 1, .m 24 36]))))))) (.seq (.ops [.ld 37 1 7, .st 1 4 37, .ki 5 0, .ki 6 0]) .ret))))
def B4_ : LF := ⟨2, 38, c13, [.cell 4 (some 1), .tmp 5, .tmp 6]⟩
theorem Dd_ : at_ Tryz.prog Tryz.f13 B4_ := ai_
theorem le_ (x : ad_) (es : List ac_) (hx : ad_.sz x ≤ 1048576) (he : au_ ac_.sz es ≤ 1048576) : aN_ Tryz.prog 13 [.agg (ad_.cells x), .list 0 5 (es.map ac_.cells)] (jd_ (dC_ x es)) pu_ := by
 refine bM_ mixed Tryz.func13 Dd_ rfl (fun h0 => ?_)
 have htr : ∀ H, aa_ Tryz.prog 47 [.agg [.list 0 3 (x.Nodes.map ab_.cells)]] H (.val (.bool (aL_ x))) := fun H => gJ_ x hx H
 have hno : ∀ H, aa_ Tryz.prog 48 [.list 0 5 (es.map ac_.cells)] H (.val (.bool (er_ es))) := fun H => mO_ es he H
 have hcp : hU_ Tryz.prog 49 [.agg [.list 0 3 (x.Nodes.map ab_.cells)]] (.agg (ad_.cells x)) _ := lb_ x hx
 have hl := aw_ he
 simp (disch := (first | omega | (simp only [ls_, la_, lc_, ln_]; first | done | omega))) only [aQ_, go_sem, Nat.reduceEqDiff, ↓reduceIte, B4_, c13, ad_.cells]
 refine aa_.call (htr _) ?_
 by_cases q1 : aL_ x = true
 case neg =>
  have q1' : aL_ x = false := by simpa using q1
  have hR : dC_ x es = (⟨[]⟩, 0, 1) := by simp [dC_, q1']
  simp (disch := (first | omega | (simp only [ls_, la_, lc_, ln_]; first | done | omega))) only [cs_, go_sem, Nat.reduceEqDiff, ↓reduceIte, q1', bO_, Option.map_some, cx_]
  rw [hR]
  exact ⟨⟨by first | exact aJ_.app _ _ | exact (aJ_.app _ _).set (by omega), gT_ (hO_ (by simp)) (by simp) _ _⟩, _, rfl, _, _, rfl⟩
 simp (disch := (first | omega | (simp only [ls_, la_, lc_, ln_]; first | done | omega))) only [go_sem, Nat.reduceEqDiff, ↓reduceIte, q1]
 refine aa_.call (hno _) ?_
 by_cases q2 : er_ es = true
 case neg =>
  have q2' : er_ es = false := by simpa using q2
  have hR : dC_ x es = (⟨[]⟩, 0, 1) := by simp [dC_, q2']
  simp (disch := (first | omega | (simp only [ls_, la_, lc_, ln_]; first | done | omega))) only [cs_, go_sem, Nat.reduceEqDiff, ↓reduceIte, q2', bO_, Option.map_some, cx_]
  rw [hR]
  exact ⟨⟨by first | exact aJ_.app _ _ | exact (aJ_.app _ _).set (by omega), gT_ (hO_ (by simp)) (by simp) _ _⟩, _, rfl, _, _, rfl⟩
 have hR : dC_ x es = b7_ x es 0 := by simp [dC_, q1, q2]
 rw [hR]
 simp (disch := (first | omega | (simp only [ls_, la_, lc_, ln_]; first | done | omega))) only [aQ_, go_sem, Nat.reduceEqDiff, ↓reduceIte, q2]
 refine hcp _ _ (fun av H1 m1 F1 q3 => ?_)
 obtain ⟨l, rfl, es1, hrow⟩ := q3
 have l1 := m1.len
 have p1 := m1.at (i := h0.length + 1) (by rw [bW_]; rfl)
 simp only [la_, lc_, ln_] at l1
 have m0 : aJ_ h0 H1 := (aJ_.app h0 _).trans m1
 have hrl := (List.getElem?_eq_some_iff.1 hrow).1
 have B0 : eb_ H1.length (h0.length + 2) (H1 ++ [⟨30, 1, [[.own l x.Nodes.length]]⟩]) x := eb_.of (hi := H1.length) (aQ_ rfl) (by omega) (Nat.le_refl _) ((F1.tree.keep fun y _ q => ay_ q).widen (by simp) (Nat.le_refl _)) ((ay_ hrl).trans hrow)
 simp (disch := (first | omega | (simp only [ls_, la_, lc_, ln_]; first | done | omega))) only [aQ_, go_sem, Nat.reduceEqDiff, ↓reduceIte]
 refine aM_ (fun n t h => ∃ (k : Nat) (y : ad_), t 4 = .ptr (h0.length + 1) 1 0 0 ∧ t 7 = .ptr H1.length 1 0 0 ∧ t 22 = .list 0 5 (es.map ac_.cells) ∧ t 23 = .val (.int .i64 es.length) ∧ t 24 = .val (.int .i64 k) ∧ aJ_ h0 h ∧ h[h0.length + 1]? = some ⟨30, 1, [[.val (.slice none 0 0)]]⟩ ∧
  eb_ H1.length (h0.length + 2) h y ∧ aL_ y = true ∧ b7_ x es 0 = b7_ y (es.drop k) k ∧ n = es.length - k ∧ k ≤ es.length) es.length ?_ ?_
 ·refine ⟨0, x, rfl, rfl, rfl, rfl, rfl, ?_, ?_, ?_, q1, rfl, rfl, Nat.zero_le _⟩
  ·first | exact m0.add _ | exact (m0.add _).set (by omega)
  ·(repeat (first | rw [ar_ (by omega)] | rw [ay_ (by first | omega | (simp only [ls_, la_, lc_, ln_]; omega))])); exact p1
  ·first | exact B0 | (refine cast ?_ B0; congr 1; simp)
 rintro J hJ n t h ⟨k, y, t4, t7, t22, t23, t24, hM, o1, B, hy, hS, rfl, hk⟩
 have ml := hM.len
 have hlow := B.low
 have hol := (List.getElem?_eq_some_iff.1 o1).1
 by_cases hlt : k < es.length
 ·have hnk := (kf_ q2).2 es[k] (List.getElem_mem hlt)
  have hzk := cj_ he (List.getElem_mem hlt)
  simp (disch := (first | omega | (simp only [ls_, la_, lc_, ln_]; first | done | omega))) only [aQ_, go_sem, Nat.reduceEqDiff, Nat.reduceAdd, ↓reduceIte, t7, t22, t23, t24, hlt, ac_.cells]
  refine j8_ (B.keep (fun y _ q => by (repeat (first | rw [ar_ (by omega)] | rw [ay_ (by first | omega | (simp only [ls_, la_, lc_, ln_]; omega))]))) (by simp)) es[k] hy hnk hzk (fun H2 k1 k2 k3 => ?_)
  simp only [la_, lc_, ln_] at k1
  have o2 : H2[h0.length + 1]? = some ⟨30, 1, [[.val (.slice none 0 0)]]⟩ := by
   rw [k2 _ (by omega)]; (repeat (first | rw [ar_ (by omega)] | rw [ay_ (by first | omega | (simp only [ls_, la_, lc_, ln_]; omega))])); exact o1
  have hM2 : aJ_ h0 H2 := ⟨by omega, fun z q => by
   rw [k2 z (by omega)]; (repeat (first | rw [ar_ (by omega)] | rw [ay_ (by first | omega | (simp only [ls_, la_, lc_, ln_]; omega))])); exact hM.kept z q⟩
  by_cases hc : (bF_ y es[k]).2 = 0
  ·simp (disch := (first | omega | (simp only [ls_, la_, lc_, ln_]; first | done | omega))) only [go_sem, Nat.reduceEqDiff, ↓reduceIte, t24, hc]
   exact ⟨es.length - (k + 1), by omega, hJ _ _ _ ⟨k + 1, (bF_ y es[k]).1, by simp [upd, t4], by simp [upd, t7], by simp [upd, t22], by simp [upd, t23], by simp [upd], hM2, o2, k3 hc, kx_ hy hnk, by rw [hS, hK_ hlt hc], rfl, by omega⟩⟩
  ·have hc' : ((bF_ y es[k]).2 = 0) = False := eq_false hc
   simp (disch := (first | omega | (simp only [ls_, la_, lc_, ln_]; first | done | omega))) only [aG_, go_sem, Nat.reduceEqDiff, ↓reduceIte, t4, o2, hc', bO_, Option.map_some, cx_]
   rw [hS, hW_ hlt hc]
   exact ⟨⟨by first | exact hM2 | exact hM2.set (by omega), gT_ (hO_ (by simp; omega)) (by simp; omega) _ _⟩, _, rfl, _, _, rfl⟩
 ·obtain ⟨a, o, ca, hF⟩ := B.arg
  have ca' := ca
  simp only [AV.cell, Value.oneCell'] at ca'
  simp (disch := (first | omega | (simp only [ls_, la_, lc_, ln_]; first | done | omega))) only [aG_, go_sem, Nat.reduceEqDiff, ↓reduceIte, t4, t7, t23, t24, o, o1, ca', hlt, cx_]
  rw [hS, li_ (by omega)]
  exact ⟨⟨hM.set (by omega), gT_ ((hF.keep fun z q _ => ar_ (by omega)).widen (by omega) (by simp)) (by simp; omega) _ _⟩, _, ca, _, _, rfl⟩
def CL_ : LC :=
 .seq (.ops [.s 1 (.box 126 (.tmp 0)), .s 2 (.mov (.const (.bool false)))]) (.seq (.seq (.ops [.fa 3 1 1, .ln 4 3, .fa 5 2 1, .ln 6 5, .c2 7 118 4 6, .nt 8 7]) (.cond (.tmp 8) (.seq (.ops [.s 2 (.mov (.const (.bool
 false)))]) .ret) .skip)) (.seq (.ops [.fa 9 0 1, .ln 10 9, .bk 11 .eql false 10 1, .m 12 11, .g 13 12 true (.fieldAddr 3 (.tmp 1)), .g 14 12 true (.load none (.tmp 13)), .g 15 12 true (.lenStr (.tmp 14)), .g 16 12 true
 (.bin .leq false (.tmp 15) (.const (.int .i64 64))), .pf 17 12 16, .m 18 17, .g 19 18 false (.fieldAddr 0 (.tmp 1)), .g 20 18 false (.load none (.tmp 19)), .g 21 18 false (.bin .eql false (.tmp 20) (.const (.int .i64
 2))), .g 22 18 false (.mov (.tmp 21)), .g 23 22 true (.fieldAddr 3 (.tmp 1)), .g 24 22 true (.load none (.tmp 23)), .g 25 22 true (.bin .eql false (.tmp 24) (.const (.string ⟨#[]⟩))), .g 26 18 false (.pick (.tmp 22)
 (.tmp 25) (.const (.bool false))), .pt 27 18 26, .m 2 27]) .ret))
def wY_ : LF := ⟨1, 28, CL_, [.tmp 2]⟩
theorem zG_ : at_ Tryz.prog Tryz.f170 wY_ := ai_
theorem lT_ (x : a2_) (hx : a2_.sz x ≤ 1048576) (h : List Row) : aa_ Tryz.prog 170 [.agg (a2_.cells x)] h (.val (.bool (cU_ x))) := by
 refine aj_ mixed Tryz.func170 zG_ rfl rfl ?_ h
 have h1 := a2_.sz_Name hx
 have h2 := aw_ (a2_.sz_Subs hx)
 simp (disch := omega) only [wY_, CL_, a2_.cells, go_sem, Nat.reduceEqDiff, Nat.reduceAdd, ↓reduceIte]
 repeat' (first
  | exact af_ _ _
  | (refine ae_ ?_; simp only [cU_, *, Bool.true_and, Bool.and_false, Bool.false_and, Bool.true_or, Bool.false_or, decide_true, decide_false, Bool.and_self, Bool.or_self]; done)
  | (refine ae_ ?_; simp [cU_, *]; done)
  | simp (disch := omega) only [go_sem, Nat.reduceEqDiff, ↓reduceIte]
  | (refine aa_.call (ct_ _ _ h1 h2 _) ?_)
  | (refine aa_.q (ct_ _ _ h1 h2 _) ?_)
  | ((first | (apply aR_; assumption) | (apply aS_; assumption) | (apply a8_; assumption) | (apply a7_; assumption)); intro hb; try simp only [hb])
  | ((first | (apply aE_; assumption) | (apply aF_; assumption) | (apply aP_; assumption) | (apply aO_; assumption)); intro hb; try simp only [hb])
  | ((first | apply az_ | apply aC_ | apply am_ | apply ao_) <;> intro hb <;> (try simp only [hb]) <;> (first | have hp := aU_ hb | have hp := aV_ hb | have hp := aT_ hb | have hp := aW_ hb | skip)))
def AQ_ : LC :=
 .seq (.ops [.ki 4 0]) (.seq (.seq (.ops [.m 6 0, .ll 7 6, .ki 8 0]) (.block 0 (.loop (.seq (.ops [.bb 9 .lss false 8 7]) (.seq (.cond (.tmp 9) .skip (.exit 0)) (.seq (.block 1 (.seq (.ops [.m 10 8, .m 5 10]) (.seq (.ops
 [.m 11 1, .m 12 0, .m 13 5, .ia 14 6 12 13, .ld 15 6 14, .s 16 (.callv (.tmp 11) [.tmp 15])]) (.cond (.tmp 16) (.seq (.ops [.m 17 5, .m 4 17]) .ret) .skip)))) (.ops [.bk 18 .add false 8 1, .m 8 18]))))))) (.seq (.ops [.s
 4 (.mov (.const (.int .i64 (-1))))]) .ret))
def wW_ : LF := ⟨2, 19, AQ_, [.tmp 4]⟩
theorem Bo_ : at_ Tryz.prog Tryz.f155 wW_ := ai_
theorem gr_ (xs : List ah_) (p : ah_ → Bool) (g : Nat) (hx : xs.length ≤ 1048576) (hc : ck_ Tryz.prog g = true) (hp : ∀ x ∈ xs, ∀ h, aa_ Tryz.prog g [.agg (ah_.cells x)] h (.val (.bool (p x)))) (h : List Row) :
 aa_ Tryz.prog 155 [.list 0 6 (xs.map ah_.cells), .fn g [] []] h (.val (.int .i64 (bV_ p xs 0))) := by
 refine aj_ mixed Tryz.func155 Bo_ rfl rfl ?_ h
 simp (disch := omega) only [wW_, AQ_, go_sem, reduceCtorEq, Int.reduceNeg, ↓reduceIte]
 refine aM_ (fun n t h => ∃ k : Nat, t 0 = .list 0 6 (xs.map ah_.cells) ∧ t 1 = .fn g [] [] ∧ t 6 = .list 0 6 (xs.map ah_.cells) ∧ t 7 = .val (.int .i64 xs.length) ∧ t 8 = .val (.int .i64 k) ∧ n = xs.length - k ∧ k ≤ xs.length ∧ (bV_ p xs 0 = bV_ p (xs.drop k) k)) (xs.length) ?_ ?_
 ·exact ⟨0, rfl, rfl, rfl, rfl, rfl, rfl, Nat.zero_le _, rfl⟩
 ·rintro J hJ n t h ⟨k, t0, t1, t6, t7, k8, rfl, hk, hS⟩
  by_cases hlt : k < xs.length
  ·skip
   rw [gc_ p xs k hlt] at hS
   simp (disch := omega) only [t0, t1, t7, k8, hlt, hc, ah_.cells, go_sem, Nat.reduceEqDiff, Nat.reduceAdd, reduceCtorEq, Int.reduceNeg, ↓reduceIte]
   repeat' (first
    | exact af_ _ _
    | exact ⟨xs.length - (k + 1), by omega, hJ _ _ _ ⟨k + 1, by simp [upd, t0], by simp [upd, t1], by simp [upd, t6], by simp [upd, t7], by simp [upd], rfl, by omega, by rw [hS]; simp [*]⟩⟩
    | (refine aD_ ?_; rw [hS]; simp [*]; done)
    | (refine aD_ ?_; rw [hS, d8_ _ _ _ (by omega)])
    | simp (disch := omega) only [k8, go_sem, Nat.reduceEqDiff, Int.reduceNeg, ↓reduceIte]
    | (refine aa_.call (hp xs[k] (List.getElem_mem hlt) _) ?_)
    | (refine aa_.q (hp xs[k] (List.getElem_mem hlt) _) ?_)
    | ((first | (apply aE_; assumption) | (apply aF_; assumption) | (apply aP_; assumption) | (apply aO_; assumption)); intro hb; try simp only [hb])
    | ((first | apply am_ | apply ao_) <;> intro hb <;> (try simp only [hb]) <;> (first | have hp := aU_ hb | have hp := aV_ hb | have hp := aT_ hb | have hp := aW_ hb | skip)))
  ·skip
   simp (disch := omega) only [t7, k8, hlt, go_sem, Int.reduceNeg, ↓reduceIte]
   repeat' (first
    | exact af_ _ _
    | (refine aD_ ?_; rw [hS]; simp [*]; done)
    | (refine aD_ ?_; rw [hS, d8_ _ _ _ (by omega)])
    | simp (disch := omega) only [t0, t1, t6, t7, k8, go_sem, Nat.reduceEqDiff, Nat.reduceAdd, Nat.reduceLeDiff, reduceCtorEq, Int.reduceLT, Int.reduceLE, Int.reduceNeg, Int.reduceSub, Int.reduceAdd, Int.reduceToNat, ↓reduceIte]
    | (refine aa_.call (hp xs[k] (List.getElem_mem hlt) _) ?_)
    | (refine aa_.q (hp xs[k] (List.getElem_mem hlt) _) ?_)
    | ((first | (apply aE_; assumption) | (apply aF_; assumption) | (apply aP_; assumption) | (apply aO_; assumption)); intro hb; try simp only [hb])
    | ((first | apply am_ | apply ao_) <;> intro hb <;> (try simp only [hb]) <;> (first | have hp := aU_ hb | have hp := aV_ hb | have hp := aT_ hb | have hp := aW_ hb | skip)))
def CQ_ : LC :=
 .seq (.ops [.s 4 (.mov (.const (.bool false)))]) (.seq (.ops [.m 5 0, .m 6 1, .c2 7 155 5 6, .bk 8 .geq false 7 0, .m 4 8]) .ret)
def wO_ : LF := ⟨2, 9, CQ_, [.tmp 4]⟩
theorem y5_ : at_ Tryz.prog Tryz.f107 wO_ := ai_
theorem ds_ (xs : List ah_) (p : ah_ → Bool) (g : Nat) (hx : xs.length ≤ 1048576) (hc : ck_ Tryz.prog g = true) (hp : ∀ x ∈ xs, ∀ h, aa_ Tryz.prog g [.agg (ah_.cells x)] h (.val (.bool (p x)))) (h : List Row) :
 aa_ Tryz.prog 107 [.list 0 6 (xs.map ah_.cells), .fn g [] []] h (.val (.bool (xs.any p))) := by
 refine aj_ mixed Tryz.func107 y5_ rfl rfl ?_ h
 simp (disch := omega) only [wO_, CQ_, go_sem, Nat.reduceEqDiff, reduceCtorEq, ↓reduceIte]
 refine aa_.call (gr_ xs p g hx hc hp _) ?_
 simp (disch := omega) only [go_sem, ↓reduceIte]
 exact ae_ (iO_ p xs)
def c67 : LC :=
 .seq (.ops [.s 2 (.mov (.const (.bool false)))]) (.seq (.ops [.m 3 0, .ll 4 3, .bk 5 .leq false 4 60, .m 6 5, .g 7 6 true (.mov (.tmp 0)), .g 8 6 true (.call 107 [.tmp 7, .func 108]), .g 9 6 true (.un .not (.tmp 8)), .pf
 10 6 9, .m 2 10]) .ret)
def BA_ : LF := ⟨1, 11, c67, [.tmp 2]⟩
theorem D4_ : at_ Tryz.prog Tryz.f67 BA_ := ai_
theorem lL_ (xs : List ah_) (hs : au_ ah_.sz xs ≤ 1048576) (h : List Row) : aa_ Tryz.prog 67 [.list 0 6 (xs.map ah_.cells)] h (.val (.bool (cC_ xs))) := by
 refine aj_ mixed Tryz.func67 D4_ rfl rfl ?_ h
 simp (disch := omega) only [BA_, c67, go_sem, reduceCtorEq, ↓reduceIte]
 repeat' (first
  | exact af_ _ _
  | (refine ae_ ?_; simp only [nC_, cC_, *, Bool.true_and, Bool.false_and, decide_true, decide_false]; done)
  | simp (disch := omega) only [go_sem, Nat.reduceEqDiff, reduceCtorEq, ↓reduceIte]
  | (refine aa_.call (ds_ _ (fun s => !cZ_ s) 108 (aw_ hs) (by kernel_rfl) (fun x hx h => gx_ x (by have := cd_ (f := ah_.sz) hx; omega) h) _) ?_)
  | (refine aa_.q (ds_ _ (fun s => !cZ_ s) 108 (aw_ hs) (by kernel_rfl) (fun x hx h => gx_ x (by have := cd_ (f := ah_.sz) hx; omega) h) _) ?_)
  | ((first | (apply aR_; assumption) | (apply aS_; assumption) | (apply a8_; assumption) | (apply a7_; assumption)); intro hb; try simp only [hb])
  | ((first | (apply aE_; assumption) | (apply aF_; assumption) | (apply aP_; assumption) | (apply aO_; assumption)); intro hb; try simp only [hb])
  | ((first | apply az_ | apply aC_ | apply am_ | apply ao_) <;> intro hb <;> (try simp only [hb]) <;> (first | have hp := aU_ hb | have hp := aV_ hb | have hp := aT_ hb | have hp := aW_ hb | skip)))
def c64 : LC :=
 .seq (.ops [.s 2 (.mov (.const (.bool false)))]) (.seq (.seq (.ops [.m 4 0, .ll 5 4, .bk 6 .gtr false 5 60]) (.cond (.tmp 6) (.seq (.ops [.s 2 (.mov (.const (.bool false)))]) .ret) .skip)) (.seq (.seq (.ops [.ki 3 0])
 (.block 0 (.loop (.seq (.seq (.ops [.m 7 3, .m 8 0, .ll 9 8, .bb 10 .lss false 7 9]) (.cond (.tmp 10) .skip (.exit 0))) (.seq (.block 1 (.seq (.ops [.m 13 0, .m 14 3, .ia 15 6 13 14, .fa 16 0 15, .ln 17 16, .c1 18 106
 17, .nt 19 18, .m 20 19, .g 21 20 false (.mov (.tmp 0)), .g 22 20 false (.mov (.tmp 3)), .g 23 20 false (.indexAddr 6 (.tmp 21) (.tmp 22)), .g 24 20 false (.fieldAddr 1 (.tmp 23)), .g 25 20 false (.load (some 5) (.tmp
 24)), .g 26 20 false (.call 80 [.tmp 25]), .g 27 20 false (.un .not (.tmp 26)), .pt 28 20 27]) (.cond (.tmp 28) (.seq (.ops [.s 2 (.mov (.const (.bool false)))]) .ret) .skip))) (.ops [.m 11 3, .bk 12 .add false 11 1, .m
 3 12])))))) (.seq (.ops [.s 2 (.mov (.const (.bool true)))]) .ret)))
def ux_ : LF := ⟨1, 29, c64, [.tmp 2]⟩
theorem Db_ : at_ Tryz.prog Tryz.f64 ux_ := ai_
theorem lE_ (xs : List ah_) (hs : au_ ah_.sz xs ≤ 1048576) (h : List Row) : aa_ Tryz.prog 64 [.list 0 6 (xs.map ah_.cells)] h (.val (.bool (cC_ xs))) := by
 refine aj_ mixed Tryz.func64 Db_ rfl rfl ?_ h
 have hx := aw_ hs
 have hm : ∀ x ∈ xs, ah_.sz x ≤ 1048576 := fun x hx => by have := cd_ (f := ah_.sz) hx; omega
 by_cases h4 : (xs.length : Int) ≤ 60
 ·have h4' : ((60 : Int) < xs.length) = False := eq_false (by omega)
  have hS0 : cC_ xs = xs.all cZ_ := by simp [cC_, h4]
  simp (disch := omega) only [ux_, c64, h4', go_sem, reduceCtorEq, ↓reduceIte]
  refine aM_ (fun n t h => ∃ k : Nat, t 0 = .list 0 6 (xs.map ah_.cells) ∧ t 3 = .val (.int .i64 k) ∧ n = xs.length - k ∧ k ≤ xs.length ∧ (xs.all cZ_ = (xs.drop k).all cZ_)) (xs.length) ?_ ?_
  ·exact ⟨0, rfl, rfl, rfl, Nat.zero_le _, rfl⟩
  ·rintro J hJ n t h ⟨k, t0, k3, rfl, hk, hS⟩
   by_cases hlt : k < xs.length
   ·skip
    rw [pr_ cZ_ xs k hlt] at hS
    simp (disch := omega) only [t0, k3, hlt, ah_.cells, go_sem, Nat.reduceEqDiff, Nat.reduceAdd, reduceCtorEq, ↓reduceIte]
    repeat' (first
     | exact af_ _ _
     | exact ⟨xs.length - (k + 1), by omega, hJ _ _ _ ⟨k + 1, by simp [upd, t0], by simp [upd], rfl, by omega, by rw [hS]; first | (simp only [cZ_, *, Bool.true_and, Bool.and_self]; done) | simp [cZ_, *]⟩⟩
     | (refine ae_ ?_; rw [hS0, hS]; first | (simp only [cZ_, *, Bool.and_false, Bool.false_and]; done) | (simp [cZ_, *]; done))
     | (refine ae_ ?_; rw [hS0, hS, k2_ _ _ _ (by omega)])
     | simp (disch := omega) only [t0, k3, go_sem, Nat.reduceEqDiff, reduceCtorEq, ↓reduceIte]
     | (refine aa_.call (fn_ _ _) ?_)
     | (refine aa_.q (fn_ _ _) ?_)
     | (refine aa_.call (fs_ (xs[k]).Event (ah_.sz_Event (hm _ (List.getElem_mem hlt))) _) ?_)
     | (refine aa_.q (fs_ (xs[k]).Event (ah_.sz_Event (hm _ (List.getElem_mem hlt))) _) ?_)
     | ((first | (apply aR_; assumption) | (apply aS_; assumption) | (apply a8_; assumption) | (apply a7_; assumption)); intro hb; try simp only [hb])
     | ((first | (apply aE_; assumption) | (apply aF_; assumption) | (apply aP_; assumption) | (apply aO_; assumption)); intro hb; try simp only [hb])
     | ((first | apply az_ | apply aC_ | apply am_ | apply ao_) <;> intro hb <;> (try simp only [hb]) <;> (first | have hp := aU_ hb | have hp := aV_ hb | have hp := aT_ hb | have hp := aW_ hb | skip)))
   ·skip
    simp (disch := omega) only [t0, k3, hlt, go_sem, Nat.reduceEqDiff, reduceCtorEq, ↓reduceIte]
    repeat' (first
     | exact af_ _ _
     | (refine ae_ ?_; rw [hS0, hS]; first | (simp only [cZ_, *, Bool.and_true, Bool.true_and, Bool.and_false, Bool.false_and, Bool.or_true, Bool.true_or, Bool.or_false, Bool.false_or, Bool.not_true, Bool.not_false, decide_true, decide_false, Bool.and_self, Bool.or_self]; done) | (simp [cZ_, *]; done))
     | (refine ae_ ?_; rw [hS0, hS, k2_ _ _ _ (by omega)])
     | simp (disch := omega) only [t0, k3, go_sem, Nat.reduceEqDiff, Nat.reduceAdd, Nat.reduceLeDiff, reduceCtorEq, Int.reduceLT, Int.reduceLE, Int.reduceNeg, Int.reduceSub, Int.reduceAdd, Int.reduceToNat, ↓reduceIte]
     | (refine aa_.call (fn_ _ _) ?_)
     | (refine aa_.q (fn_ _ _) ?_)
     | (refine aa_.call (fs_ (xs[k]).Event (ah_.sz_Event (hm _ (List.getElem_mem hlt))) _) ?_)
     | (refine aa_.q (fs_ (xs[k]).Event (ah_.sz_Event (hm _ (List.getElem_mem hlt))) _) ?_)
     | ((first | (apply aR_; assumption) | (apply aS_; assumption) | (apply a8_; assumption) | (apply a7_; assumption)); intro hb; try simp only [hb])
     | ((first | (apply aE_; assumption) | (apply aF_; assumption) | (apply aP_; assumption) | (apply aO_; assumption)); intro hb; try simp only [hb])
     | ((first | apply az_ | apply aC_ | apply am_ | apply ao_) <;> intro hb <;> (try simp only [hb]) <;> (first | have hp := aU_ hb | have hp := aV_ hb | have hp := aT_ hb | have hp := aW_ hb | skip)))
 ·have h4' : ((60 : Int) < xs.length) = True := eq_true (by omega)
  simp (disch := omega) only [ux_, c64, h4', go_sem, reduceCtorEq, ↓reduceIte]
  exact ae_ (by simp [cC_, h4])
theorem sc_ {x : ad_} {es : List ac_} (h1 : aL_ x = true) (h2 : er_ es = true) : dC_ x es = b7_ x es 0 := by simp [dC_, h1, h2]
def cO_ (ds : List ah_) : List ac_ := ds.map ah_.Event
theorem pX_ : ∀ ds : List ah_, au_ ac_.sz (cO_ ds) ≤ au_ ah_.sz ds
 | [] => Nat.le_refl _
 | d :: ds => by
  have ih := pX_ ds
  have e3 : ah_.sz d = ac_.sz d.Event := rfl
  simp only [cO_, au_, b8_, lc_, List.map_cons] at ih ⊢
  omega
theorem p7_ {ds : List ah_} (h : cC_ ds = true) : er_ (cO_ ds) = true := by
 simp only [cC_, Bool.and_eq_true, decide_eq_true_eq, List.all_eq_true, cZ_] at h
 simp only [er_, cO_, Bool.and_eq_true, decide_eq_true_eq, List.all_eq_true, List.length_map, List.mem_map]
 refine ⟨h.1, ?_⟩
 rintro e ⟨d, hd, rfl⟩
 exact (h.2 d hd).2
def bK_ (x : ad_) (ds : List ah_) : ad_ × Int × Int := if (aL_ x && cC_ ds) = true then dC_ x (cO_ ds) else (⟨[]⟩, 0, 1)
theorem pA_ (x : ad_) (ds : List ah_) : ad_.sz (bK_ x ds).1 ≤ 1048576 := by
 unfold bK_
 split
 ·exact sJ_ _ _
 ·exact cV_ g9_
structure mJ_ (L lo : Nat) (H : List Row) (x : ad_) : Prop where
 out : ∃ (a : AV) (p q : Nat), H[L]? = some ⟨30, 1, [[a]]⟩ ∧ a.cell = true ∧ lo ≤ p ∧ p ≤ q ∧ q ≤ H.length ∧ (q ≤ L ∨ L < p) ∧ aA_ p q H (.agg [a]) (.agg (ad_.cells x))
section
variable {L lo : Nat} {H H' : List Row} {x : ad_}
theorem mJ_.keep (T : mJ_ L lo H x) (hL : lo ≤ L) (hk : ∀ y, lo ≤ y → y < H.length → H'[y]? = H[y]?) (hl : H.length ≤ H'.length) : mJ_ L lo H' x := by
 obtain ⟨a, p, q, o, ca, h1, h2, h3, h4, h5⟩ := T
 exact ⟨a, p, q, (hk L hL (List.getElem?_eq_some_iff.1 o).1).trans o, ca, h1, h2, by omega, h4, h5.keep fun y q1 q2 => hk y (by omega) (by omega)⟩
theorem mJ_.lt (T : mJ_ L lo H x) : L < H.length := by
 obtain ⟨a, p, q, o, _⟩ := T
 exact (List.getElem?_eq_some_iff.1 o).1
end
def c28 : LC :=
 .seq (.ops [.s 2 (.box 30 (.tmp 0)), .s 4 (.alloc 30 (.agg #[.slice none 0 0])), .ki 5 0, .ki 6 0]) (.seq (.seq (.ops [.ld 10 1 2, .c1 11 47 10, .nt 12 11, .m 13 12, .g 14 13 false (.mov (.tmp 1)), .g 15 13 false (.call
 67 [.tmp 14]), .g 16 13 false (.un .not (.tmp 15)), .pt 17 13 16]) (.cond (.tmp 17) (.seq (.ops [.s 18 (.build (.agg #[.slice none 0 0]) [(0, 1)] []), .st 1 4 18, .ki 5 0, .ki 6 1]) .ret) .skip)) (.seq (.ops [.s 19
 (.buildSlice 79 5 (.agg #[.int .i64 0, .string ⟨#[]⟩, .slice none 0 0, .string ⟨#[]⟩, .int .i64 0]) 0 []), .m 7 19]) (.seq (.seq (.ops [.m 20 1, .ll 21 20, .ki 22 0]) (.block 0 (.loop (.seq (.ops [.bb 23 .lss false 22
 21]) (.seq (.cond (.tmp 23) .skip (.exit 0)) (.seq (.block 1 (.seq (.ops [.ia 24 6 20 22, .ld 25 6 24, .s 9 (.alloc 101 (.agg #[.int .i64 0, .int .i64 0, .string ⟨#[]⟩, .slice none 0 0, .string ⟨#[]⟩, .int .i64 0])), .st
 6 9 25]) (.ops [.m 26 7, .fa 27 1 9, .ld 28 5 27, .s 29 (.buildSlice 79 5 (.agg #[.int .i64 0, .string ⟨#[]⟩, .slice none 0 0, .string ⟨#[]⟩, .int .i64 0]) 1 [(0, .tmp 28)]), .ap 30 79 5 72 26 29, .m 7 30]))) (.ops [.bk
 31 .add false 22 1, .m 22 31]))))))) (.seq (.ops [.ld 32 1 2, .m 33 7, .c2 34 13 32 33, .ex 35 34 0, .ex 36 34 1, .ex 37 34 2, .st 1 4 35, .m 5 36, .m 6 37]) .ret))))
def zF_ : LF := ⟨2, 38, c28, [.cell 4 (some 1), .tmp 5, .tmp 6]⟩
theorem DR_ : at_ Tryz.prog Tryz.f28 zF_ := ai_
theorem rE_ (es : List ac_) : ∀ e ∈ es.map ac_.cells, e.all AV.flat = true := by
 intro e he
 obtain ⟨x, _, q⟩ := List.mem_map.1 he; subst q
 rfl
theorem ep_ (x : ad_) (ds : List ah_) (hx : ad_.sz x ≤ 1048576) (hd : au_ ah_.sz ds ≤ 1048576) : aN_ Tryz.prog 28 [.agg (ad_.cells x), .list 0 6 (ds.map ah_.cells)] (jd_ (bK_ x ds)) pu_ := by
 refine bM_ mixed Tryz.func28 DR_ rfl (fun h0 => ?_)
 have htr : ∀ H, aa_ Tryz.prog 47 [.agg [.list 0 3 (x.Nodes.map ab_.cells)]] H (.val (.bool (aL_ x))) := fun H => gJ_ x hx H
 have hno : ∀ H, aa_ Tryz.prog 67 [.list 0 6 (ds.map ah_.cells)] H (.val (.bool (cC_ ds))) := fun H => lL_ ds hd H
 have hl := aw_ hd
 simp (disch := (first | omega | (simp only [ls_, la_, lc_, ln_]; first | done | omega))) only [aQ_, go_sem, Nat.reduceEqDiff, ↓reduceIte, zF_, c28, ad_.cells]
 refine aa_.call (htr _) ?_
 by_cases q1 : aL_ x = true
 case neg =>
  have q1' : aL_ x = false := by simpa using q1
  have hR : bK_ x ds = (⟨[]⟩, 0, 1) := by simp [bK_, q1']
  simp (disch := (first | omega | (simp only [ls_, la_, lc_, ln_]; first | done | omega))) only [cs_, go_sem, Nat.reduceEqDiff, ↓reduceIte, q1', bO_, Option.map_some, cx_]
  rw [hR]
  exact ⟨⟨by first | exact aJ_.app _ _ | exact (aJ_.app _ _).set (by omega), gT_ (hO_ (by simp)) (by simp) _ _⟩, _, rfl, _, _, rfl⟩
 simp (disch := (first | omega | (simp only [ls_, la_, lc_, ln_]; first | done | omega))) only [go_sem, Nat.reduceEqDiff, ↓reduceIte, q1]
 refine aa_.call (hno _) ?_
 by_cases q2 : cC_ ds = true
 case neg =>
  have q2' : cC_ ds = false := by simpa using q2
  have hR : bK_ x ds = (⟨[]⟩, 0, 1) := by simp [bK_, q2']
  simp (disch := (first | omega | (simp only [ls_, la_, lc_, ln_]; first | done | omega))) only [cs_, go_sem, Nat.reduceEqDiff, ↓reduceIte, q2', bO_, Option.map_some, cx_]
  rw [hR]
  exact ⟨⟨by first | exact aJ_.app _ _ | exact (aJ_.app _ _).set (by omega), gT_ (hO_ (by simp)) (by simp) _ _⟩, _, rfl, _, _, rfl⟩
 have hR : bK_ x ds = dC_ x (cO_ ds) := by simp [bK_, q1, q2]
 rw [hR]
 simp (disch := (first | omega | (simp only [ls_, la_, lc_, ln_]; first | done | omega))) only [go_sem, Nat.reduceEqDiff, Nat.reduceAdd, ↓reduceIte, q2]
 refine aM_ (fun n t h => ∃ (k : Nat), t 2 = .ptr h0.length 1 0 0 ∧ t 4 = .ptr (h0.length + 1) 1 0 0 ∧ t 7 = .own (h0.length + 2) k ∧ t 20 = .list 0 6 (ds.map ah_.cells) ∧ t 21 = .val (.int .i64 ds.length) ∧ t 22 = .val (.int .i64 k) ∧ aJ_ h0 h ∧ h[h0.length]? = some ⟨30, 1, [[.list 0 3 (x.Nodes.map ab_.cells)]]⟩ ∧ h[h0.length + 1]? = some ⟨30, 1, [[.val (.slice none 0 0)]]⟩ ∧
  h[h0.length + 2]? = some ⟨79, 5, (cO_ (ds.take k)).map ac_.cells⟩ ∧ n = ds.length - k ∧ k ≤ ds.length) ds.length ?_ ?_
 ·refine ⟨0, rfl, rfl, rfl, rfl, rfl, rfl, ?_, ?_, ?_, ?_, rfl, Nat.zero_le _⟩
  ·first | exact aJ_.app _ _ | exact (aJ_.app _ _).add _
  ·first | (rw [cn_]; rfl) | ((repeat (first | rw [ar_ (by omega)] | rw [ay_ (by first | omega | (simp only [ls_, la_, lc_, ln_]; omega))])); rw [cn_]; rfl)
  ·first | (rw [bW_]; rfl) | ((repeat (first | rw [ar_ (by omega)] | rw [ay_ (by first | omega | (simp only [ls_, la_, lc_, ln_]; omega))])); rw [bW_]; rfl)
  ·first | (rw [bW_]; rfl) | exact aQ_ (by simp)
 rintro J hJ n t h ⟨k, t2, t4, t7, t20, t21, t22, hM, o0, o1, o2, rfl, hk⟩
 have ml := hM.len
 have g2 := (List.getElem?_eq_some_iff.1 o2).1
 have hel : (cO_ (ds.take k)).length = k := by simp [cO_]; omega
 by_cases hlt : k < ds.length
 ·simp (disch := (first | omega | (simp only [ls_, la_, lc_, ln_]; first | done | omega))) only [ay_, aQ_, cs_, go_sem, Nat.reduceEqDiff, Nat.reduceAdd, Nat.reduceLeDiff, ↓reduceIte, t7, t20, t21, t22, o2, hlt, hel, List.length_map, ah_.cells, List.append_nil, List.cons_append, List.nil_append]
  repeat (refine And.intro (by first | omega | (exact strs_cellv _) | assumption | (simp; done)) ?_)
  have e1 : cO_ (ds.take (k + 1)) = cO_ (ds.take k) ++ [ds[k].Event] := by
   unfold cO_; rw [List.take_succ_eq_append_getElem hlt, List.map_append]; rfl
  refine ⟨ds.length - (k + 1), by omega, hJ _ _ _ ⟨k + 1, by simp [upd, t2], by simp [upd, t4], by simp [upd], by simp [upd, t20], by simp [upd, t21], by simp [upd], ?_, ?_, ?_, ?_, rfl, by omega⟩⟩
  ·first | exact (hM.add _).set (by omega) | exact (((hM.add _).set (by omega)).add _).set (by omega)
  ·(repeat (first | rw [ar_ (by omega)] | rw [ay_ (by first | omega | (simp only [ls_, la_, lc_, ln_]; omega))])); exact o0
  ·(repeat (first | rw [ar_ (by omega)] | rw [ay_ (by first | omega | (simp only [ls_, la_, lc_, ln_]; omega))])); exact o1
  ·rw [e1, List.map_append]; exact aG_ (by simp; omega)
 ·have e : k = ds.length := by omega
  subst e
  rw [List.take_length] at o2 hel
  simp (disch := (first | omega | (simp only [ls_, la_, lc_, ln_]; first | done | omega))) only [go_sem, Nat.reduceEqDiff, ↓reduceIte, t2, t7, t21, t22, o0, hlt]
  refine dV_ (le_ x (cO_ ds) hx (Nat.le_trans (pX_ ds) hd)) (a1_.cons (bG_.same rfl) (a1_.cons (bG_.res (n := 3) (iZ_ o2 (by simp [hel]) (rE_ _))) a1_.nil)) (fun av H1 m1 F1 q3 => ?_)
  obtain ⟨b, cb, v, v2, rfl⟩ := q3
  obtain ⟨G, hv, hv2⟩ := F1.three
  simp only [AV.val.injEq, Value.int.injEq, true_and] at hv hv2
  subst hv hv2
  have cb' := cb
  simp only [AV.cell, Value.oneCell'] at cb'
  have p1 := m1.at o1
  have l1 := m1.len
  simp (disch := (first | omega | (simp only [ls_, la_, lc_, ln_]; first | done | omega))) only [aG_, go_sem, Nat.reduceEqDiff, ↓reduceIte, t4, p1, cb', cx_]
  exact ⟨⟨(hM.trans m1).set (by omega), gT_ ((G.tree.keep fun z q _ => ar_ (by omega)).widen (by omega) (by simp)) (by simp; omega) _ _⟩, _, cb, _, _, rfl⟩
def AO_ : LC :=
 .seq (.ops [.s 4 (.box 30 (.tmp 0)), .s 8 (.alloc 30 (.agg #[.slice none 0 0])), .ki 9 0]) (.seq (.ops [.ld 14 1 4, .m 15 1, .m 16 2, .c3 17 165 14 15 16, .m 13 17, .ex 18 13 0, .ex 19 13 1, .m 10 18, .m 11 19]) (.seq
 (.seq (.ops [.m 20 11, .nt 21 20, .m 22 21, .g 23 22 true (.fieldAddr 0 (.tmp 4)), .g 24 22 true (.load none (.tmp 23)), .g 25 22 true (.lenSl (.tmp 24)), .g 26 22 true (.bin .geq false (.tmp 25) (.const (.int .i64
 120))), .pf 27 22 26]) (.cond (.tmp 27) (.seq (.ops [.s 28 (.build (.agg #[.slice none 0 0]) [(0, 1)] []), .st 1 8 28, .ki 9 4]) .ret) .skip)) (.seq (.ops [.s 29 (.buildSlice 112 3 (.agg #[.string ⟨#[]⟩, .slice none 0 0,
 .string ⟨#[]⟩]) 0 []), .fa 30 0 4, .ln 31 30, .m 32 10, .s 33 (.sliceSl 3 (.tmp 31) none (some (.tmp 32))), .ap 34 112 3 56 29 33, .m 12 34]) (.seq (.ops [.m 35 12, .m 36 1, .m 37 2, .m 38 3, .s 39 (.build (.agg
 #[.string ⟨#[]⟩, .slice none 0 0, .string ⟨#[]⟩]) [(0, 1), (1, 1), (2, 1)] [(0, .tmp 36), (1, .tmp 37), (2, .tmp 38)]), .s 40 (.buildSlice 112 3 (.agg #[.string ⟨#[]⟩, .slice none 0 0, .string ⟨#[]⟩]) 1 [(0, .tmp 39)]),
 .ap 41 112 3 56 35 40, .m 12 41]) (.seq (.seq (.ops [.m 42 11]) (.cond (.tmp 42) (.ops [.m 43 10, .bk 44 .add false 43 1, .m 10 44]) .skip)) (.seq (.ops [.m 45 12, .fa 46 0 4, .ln 47 46, .m 48 10, .s 49 (.sliceSl 3 (.tmp
 47) (some (.tmp 48)) none), .ap 50 112 3 56 45 49, .c1 51 157 50, .s 52 (.build (.agg #[.slice none 0 0]) [(0, 1)] [(0, .tmp 51)]), .st 1 8 52, .ki 9 0]) .ret))))))
def wR_ : LF := ⟨4, 53, AO_, [.cell 8 (some 1), .tmp 9]⟩
theorem zi_ : at_ Tryz.prog Tryz.f201 wR_ := ai_
theorem sO_ (ns : List ab_) : ∀ e ∈ ns.map ab_.cells, e.all AV.cell = true := by
 intro e he
 obtain ⟨x, _, q⟩ := List.mem_map.1 he; subst q
 rfl
theorem k6_ (x : ad_) (n : ByteArray) (s : List ByteArray) (v : ByteArray) (hx : aL_ x = true) (ht : cL_ n s = true) (hv : v.size ≤ 64) (hs : au_ ByteArray.size s ≤ 1048576) : aN_ Tryz.prog 201 [.agg (ad_.cells x), .val (.string n), .list 0 1 (s.map al_), .val (.string v)] (fb_ (if dq_ x n s = 0 then ⟨dH_ x.Nodes n s v⟩ else ⟨[]⟩, dq_ x n s)) h1_ := by
 refine bM_ mixed Tryz.func201 zi_ rfl (fun h0 => ?_)
 have hat : ∀ H, aa_ Tryz.prog 165 [.agg [.list 0 3 (x.Nodes.map ab_.cells)], .val (.string n), .list 0 1 (s.map al_)] H (.tup [.val (.int .i64 (bi_ x.Nodes n s)), .val (.bool (bs_ x.Nodes n s))]) := fun H => j0_ x n s (cV_ hx) hs H
 have hxl := hu_ hx
 have hpl := kY_ x.Nodes n s
 have hcv := sO_ x.Nodes
 simp (disch := (first | omega | (simp only [ls_, la_, lc_, ln_]; first | done | omega))) only [aQ_, go_sem, Nat.reduceEqDiff, ↓reduceIte, wR_, AO_, ad_.cells]
 refine aa_.call (hat _) ?_
 generalize hH : (h0 ++ [⟨30, 1, [[.list 0 3 (x.Nodes.map ab_.cells)]]⟩, ⟨30, 1, [[.val (.slice none 0 0)]]⟩] : List Row) = H
 have o0 : H[h0.length]? = some ⟨30, 1, [[.list 0 3 (x.Nodes.map ab_.cells)]]⟩ := by rw [← hH, cn_]; rfl
 have o1 : H[h0.length + 1]? = some ⟨30, 1, [[.val (.slice none 0 0)]]⟩ := by rw [← hH, bW_]; rfl
 have hl : H.length = h0.length + 2 := by rw [← hH]; simp
 have hM : aJ_ h0 H := by rw [← hH]; exact aJ_.app _ _
 clear hH
 have fin : dq_ x n s = 0 → ∀ (H' : List Row) (es : List (List AV)) (k : Nat) (K : AV → List Row → Prop), aJ_ H H' → H.length < H'.length → H'[H.length]? = some ⟨112, 3, es⟩ → es = (dH_ x.Nodes n s v).map ab_.cells → k = (dH_ x.Nodes n s v).length →
  (∀ (l : Nat) (H1 : List Row), aJ_ H' H1 → FB H'.length H1.length H1 (.own l (dH_ x.Nodes n s v).length) (.list 0 3 ((dH_ x.Nodes n s v).map ab_.cells)) → K (.own l (dH_ x.Nodes n s v).length) H1) →
  callSem Tryz.prog 157 [.own H.length k] H' K := by
  intro hC H' es k K hM' hHl o2 he hk hK
  have hok : aL_ ⟨dH_ x.Nodes n s v⟩ = true := q3_ hx ht hv (by
   unfold dq_ at hC
   split at hC
   ·assumption
   ·cases hC)
  subst he hk
  refine dV_ (hk_ (dH_ x.Nodes n s v) (ad_.sz_Nodes (cV_ hok))) (a1_.cons (bG_.res (n := 3) (iZ_ o2 (by simp) (oc_ _))) a1_.nil) (fun av H1 m1 F1 q1 => ?_)
  obtain ⟨l, rfl⟩ := q1
  exact hK l H1 m1 F1
 cases hf : bs_ x.Nodes n s
 case true =>
  have hC : dq_ x n s = 0 := by rw [dq_, if_pos (.inl hf)]
  obtain ⟨hp, _, _⟩ := jo_ hf
  have hP : dH_ x.Nodes n s v = x.Nodes.take (bi_ x.Nodes n s) ++ ⟨n, s, v⟩ :: x.Nodes.drop (bi_ x.Nodes n s + 1) := by rw [dH_, if_pos hf]
  rw [hC, if_pos rfl]
  simp (disch := (first | omega | (simp only [ls_, la_, lc_, ln_]; first | done | omega))) only [ay_, aQ_, cs_, go_sem, Nat.reduceEqDiff, Nat.reduceAdd, Nat.reduceLeDiff, ↓reduceIte, o0, hpl, bO_, Option.map_some, List.length_map, la_, List.length_take, List.length_drop, lc_, ln_, List.drop_zero, List.nil_append, Nat.zero_add, if_pos]
  have htn : ((bi_ x.Nodes n s : Int) + 1).toNat = bi_ x.Nodes n s + 1 := by omega
  have hML : (x.Nodes.map ab_.cells).length ≤ x.Nodes.length := by simp
  refine ⟨by omega, by omega, fun e he => hcv e (List.mem_of_mem_take he), by omega, by omega, by omega, by omega, fun e he => hcv e (List.mem_of_mem_take (List.mem_of_mem_drop he)), ?_⟩
  refine fin hC _ _ _ _ (aJ_.app _ _) (by simp) (aQ_ rfl) ?_ ?_ (fun l H1 m1 F1 => ?_)
  ·rw [hP, htn, List.take_of_length_le hML]
   simp only [List.map_append, List.map_cons, List.map_take, List.map_drop]
   rfl
  ·rw [hP, la_, lc_, List.length_take, List.length_drop]; omega
  ·have o2 := m1.at ((ay_ (by omega)).trans o1)
   have l1 := m1.len
   simp only [la_, lc_, ln_] at l1
   simp (disch := (first | omega | (simp only [ls_, la_, lc_, ln_]; first | done | omega))) only [aG_, go_sem, Nat.reduceEqDiff, ↓reduceIte, o2, bO_, Option.map_some, dm_]
   exact ⟨⟨((hM.add _).trans m1).set (by omega), hs_ ((aA_.agg (an_.cons (F1.tree.keep fun z q _ => ar_ (by simp at q; omega)) (an_.nil _ _ _) ⟨by simp; omega, Nat.le_refl _⟩)).widen (by simp; omega) (by simp)) (by simp; omega) _⟩, _, rfl, _, rfl⟩
 case false =>
  by_cases h120 : x.Nodes.length < 120
  ·have hC : dq_ x n s = 0 := by rw [dq_, if_pos (.inr h120)]
   have h120' : ((120 : Int) ≤ (x.Nodes.length : Int)) = False := eq_false (by omega)
   have hP : dH_ x.Nodes n s v = x.Nodes.take (bi_ x.Nodes n s) ++ ⟨n, s, v⟩ :: x.Nodes.drop (bi_ x.Nodes n s) := lW_ hf
   rw [hC, if_pos rfl]
   simp (disch := (first | omega | (simp only [ls_, la_, lc_, ln_]; first | done | omega))) only [ay_, aQ_, cs_, go_sem, Nat.reduceEqDiff, Nat.reduceAdd, Nat.reduceLeDiff, ↓reduceIte, o0, hpl, bO_, Option.map_some, List.length_map, la_, List.length_take, List.length_drop, lc_, ln_, List.drop_zero, List.nil_append, Nat.zero_add, h120']
   have hML : (x.Nodes.map ab_.cells).length ≤ x.Nodes.length := by simp
   refine ⟨by omega, by omega, fun e he => hcv e (List.mem_of_mem_take he), by omega, by omega, by omega, by omega, fun e he => hcv e (List.mem_of_mem_take (List.mem_of_mem_drop he)), ?_⟩
   refine fin hC _ _ _ _ (aJ_.app _ _) (by simp) (aQ_ rfl) ?_ ?_ (fun l H1 m1 F1 => ?_)
   ·rw [hP, List.take_of_length_le hML]
    simp only [List.map_append, List.map_cons, List.map_take, List.map_drop]
    rfl
   ·rw [hP, la_, lc_, List.length_take, List.length_drop]; omega
   ·have o2 := m1.at ((ay_ (by omega)).trans o1)
    have l1 := m1.len
    simp only [la_, lc_, ln_] at l1
    simp (disch := (first | omega | (simp only [ls_, la_, lc_, ln_]; first | done | omega))) only [aG_, go_sem, Nat.reduceEqDiff, ↓reduceIte, o2, bO_, Option.map_some, dm_]
    exact ⟨⟨((hM.add _).trans m1).set (by omega), hs_ ((aA_.agg (an_.cons (F1.tree.keep fun z q _ => ar_ (by simp at q; omega)) (an_.nil _ _ _) ⟨by simp; omega, Nat.le_refl _⟩)).widen (by simp; omega) (by simp)) (by simp; omega) _⟩, _, rfl, _, rfl⟩
  ·have hC : dq_ x n s = 4 := by rw [dq_, if_neg (by rw [hf]; simp; omega)]
   have h120' : ((120 : Int) ≤ (x.Nodes.length : Int)) = True := eq_true (by omega)
   rw [hC, if_neg (by decide)]
   simp (disch := (first | omega | (simp only [ls_, la_, lc_, ln_]; first | done | omega))) only [aG_, go_sem, Nat.reduceEqDiff, ↓reduceIte, o0, o1, List.length_map, h120', bO_, Option.map_some, dm_]
   exact ⟨⟨hM.set (by omega), hs_ (hO_ (by simp; omega)) (by simp; omega) _⟩, _, rfl, _, rfl⟩
def vR_ : LC :=
 .seq (.ops [.s 2 (.box 30 (.tmp 0)), .s 3 (.box 126 (.tmp 1)), .s 4 (.alloc 30 (.agg #[.slice none 0 0])), .ki 5 0]) (.seq (.seq (.ops [.fa 6 0 3, .ln 7 6, .bk 8 .eql false 7 1]) (.cond (.tmp 8) (.seq (.ops [.ld 9 1 2,
 .fa 10 1 3, .ln 11 10, .fa 12 2 3, .ln 13 12, .fa 14 3 3, .ln 15 14, .s 16 (.call 201 [.tmp 9, .tmp 11, .tmp 13, .tmp 15]), .ex 17 16 0, .ex 18 16 1, .st 1 4 17, .m 5 18]) .ret) .skip)) (.seq (.ops [.ld 19 1 2, .fa 20 1
 3, .ln 21 20, .fa 22 2 3, .ln 23 22, .c3 24 202 19 21 23, .st 1 4 24, .ki 5 0]) .ret))
def sS_ : LF := ⟨2, 25, vR_, [.cell 4 (some 1), .tmp 5]⟩
theorem zV_ : at_ Tryz.prog Tryz.f171 sS_ := ai_
theorem l9_ (x : ad_) (c : a2_) (hx : aL_ x = true) (hc : cU_ c = true) (hz : a2_.sz c ≤ 1048576) : aN_ Tryz.prog 171 [.agg (ad_.cells x), .agg (a2_.cells c)] (fb_ (bX_ x c)) h1_ := by
 refine bM_ mixed Tryz.func171 zV_ rfl (fun h0 => ?_)
 have hs := a2_.sz_Subs hz
 have hc2 := hc
 simp only [cU_, Bool.and_eq_true, Bool.or_eq_true, decide_eq_true_eq] at hc2
 by_cases hk1 : c.Kind = 1
 ·have hk1' : (c.Kind = 1) = True := eq_true hk1
  have hv : c.Value.size ≤ 64 := by rcases hc2.2 with ⟨_, q⟩ | ⟨q, _⟩ <;> omega
  have hR : bX_ x c = (if dq_ x c.Name c.Subs = 0 then ⟨dH_ x.Nodes c.Name c.Subs c.Value⟩ else ⟨[]⟩, dq_ x c.Name c.Subs) := by
   unfold bX_ dq_
   rw [if_pos hk1]
   split
   ·rfl
   ·rfl
  have hput : aN_ Tryz.prog 201 [.agg [.list 0 3 (x.Nodes.map ab_.cells)], .val (.string c.Name), .list 0 1 (c.Subs.map al_), .val (.string c.Value)] (fb_ (bX_ x c)) h1_ := by
   rw [hR]; exact k6_ x c.Name c.Subs c.Value hx hc2.1 hv hs
  simp (disch := (first | omega | (simp only [ls_, la_, lc_, ln_]; first | done | omega))) only [aQ_, cs_, go_sem, Nat.reduceEqDiff, Nat.reduceAdd, ↓reduceIte, sS_, vR_, ad_.cells, a2_.cells, hk1']
  refine bE_ hput (fun av H1 m1 F1 q1 => ?_)
  obtain ⟨b, cb, v, rfl⟩ := q1
  obtain ⟨G, hv⟩ := F1.two
  simp only [AV.val.injEq, Value.int.injEq, true_and] at hv
  subst hv
  have cb' := cb
  simp only [AV.cell, Value.oneCell'] at cb'
  have l1 := m1.len
  simp only [la_, lc_, ln_] at l1
  have p2 := m1.at (i := h0.length + 2) (by rw [bW_]; rfl)
  simp (disch := (first | omega | (simp only [ls_, la_, lc_, ln_]; first | done | omega))) only [aG_, go_sem, Nat.reduceEqDiff, ↓reduceIte, p2, cb', dm_]
  exact ⟨⟨((aJ_.app h0 _).trans m1).set (by omega), hs_ ((G.tree.keep fun z q _ => ar_ (by simp at q; omega)).widen (by simp) (by simp)) (by simp; omega) _⟩, _, cb, _, rfl⟩
 ·have hk1' : (c.Kind = 1) = False := eq_false hk1
  have hR : bX_ x c = (⟨cP_ x.Nodes c.Name c.Subs⟩, 0) := by rw [bX_, if_neg hk1]
  have hkill : aN_ Tryz.prog 202 [.agg [.list 0 3 (x.Nodes.map ab_.cells)], .val (.string c.Name), .list 0 1 (c.Subs.map al_)] (.agg (ad_.cells ⟨cP_ x.Nodes c.Name c.Subs⟩)) (fun a => ∃ l, a = .agg [.own l (cP_ x.Nodes c.Name c.Subs).length]) := kA_ x c.Name c.Subs (cV_ hx)
  rw [hR]
  simp (disch := (first | omega | (simp only [ls_, la_, lc_, ln_]; first | done | omega))) only [aQ_, cs_, go_sem, Nat.reduceEqDiff, Nat.reduceAdd, ↓reduceIte, sS_, vR_, ad_.cells, a2_.cells, hk1']
  refine bE_ hkill (fun av H1 m1 F1 q1 => ?_)
  obtain ⟨l, rfl⟩ := q1
  have l1 := m1.len
  simp only [la_, lc_, ln_] at l1
  have p2 := m1.at (i := h0.length + 2) (by rw [bW_]; rfl)
  simp (disch := (first | omega | (simp only [ls_, la_, lc_, ln_]; first | done | omega))) only [aG_, go_sem, Nat.reduceEqDiff, ↓reduceIte, p2, dm_]
  exact ⟨⟨((aJ_.app h0 _).trans m1).set (by omega), hs_ ((F1.tree.keep fun z q _ => ar_ (by simp at q; omega)).widen (by simp) (by simp)) (by simp; omega) _⟩, _, rfl, _, rfl⟩
def jK_ (x : ad_) (c : a2_) : ad_ × Int := if (aL_ x && cU_ c) = true then bX_ x c else (⟨[]⟩, 1)
def BX_ : LC :=
 .seq (.ops [.s 2 (.box 30 (.tmp 0)), .s 3 (.box 126 (.tmp 1)), .s 4 (.alloc 30 (.agg #[.slice none 0 0])), .ki 5 0]) (.seq (.seq (.ops [.ld 6 1 2, .c1 7 41 6, .nt 8 7, .m 9 8, .g 10 9 false (.load (some 4) (.tmp 3)), .g
 11 9 false (.call 170 [.tmp 10]), .g 12 9 false (.un .not (.tmp 11)), .pt 13 9 12]) (.cond (.tmp 13) (.seq (.ops [.s 14 (.build (.agg #[.slice none 0 0]) [(0, 1)] []), .st 1 4 14, .ki 5 1]) .ret) .skip)) (.seq (.ops [.ld
 15 1 2, .ld 16 4 3, .c2 17 171 15 16, .ex 18 17 0, .ex 19 17 1, .st 1 4 18, .m 5 19]) .ret))
def xC_ : LF := ⟨2, 20, BX_, [.cell 4 (some 1), .tmp 5]⟩
theorem Ba_ : at_ Tryz.prog Tryz.f133 xC_ := ai_
theorem j5_ (x : ad_) (c : a2_) (hx : ad_.sz x ≤ 1048576) (hz : a2_.sz c ≤ 1048576) : aN_ Tryz.prog 133 [.agg (ad_.cells x), .agg (a2_.cells c)] (fb_ (jK_ x c)) h1_ := by
 refine bM_ mixed Tryz.func133 Ba_ rfl (fun h0 => ?_)
 have htr : ∀ H, aa_ Tryz.prog 41 [.agg [.list 0 3 (x.Nodes.map ab_.cells)]] H (.val (.bool (aL_ x))) := fun H => cI_ x hx H
 have hch : ∀ H, aa_ Tryz.prog 170 [.agg [.val (.int .i64 c.Kind), .val (.string c.Name), .list 0 1 (c.Subs.map al_), .val (.string c.Value)]] H (.val (.bool (cU_ c))) := fun H => lT_ c hz H
 simp (disch := (first | omega | (simp only [ls_, la_, lc_, ln_]; first | done | omega))) only [aQ_, go_sem, Nat.reduceEqDiff, Nat.reduceAdd, ↓reduceIte, xC_, BX_, ad_.cells, a2_.cells]
 refine aa_.call (htr _) ?_
 by_cases q1 : aL_ x = true
 case neg =>
  have q1' : aL_ x = false := by simpa using q1
  have hR : jK_ x c = (⟨[]⟩, 1) := by simp [jK_, q1']
  simp (disch := (first | omega | (simp only [ls_, la_, lc_, ln_]; first | done | omega))) only [nZ_, go_sem, Nat.reduceEqDiff, ↓reduceIte, q1', bO_, Option.map_some, dm_]
  rw [hR]
  exact ⟨⟨by first | exact aJ_.app _ _ | exact (aJ_.app _ _).set (by omega), hs_ (hO_ (by simp)) (by simp) _⟩, _, rfl, _, rfl⟩
 simp (disch := (first | omega | (simp only [ls_, la_, lc_, ln_]; first | done | omega))) only [cs_, go_sem, Nat.reduceEqDiff, Nat.reduceAdd, ↓reduceIte, q1]
 refine aa_.call (hch _) ?_
 by_cases q2 : cU_ c = true
 case neg =>
  have q2' : cU_ c = false := by simpa using q2
  have hR : jK_ x c = (⟨[]⟩, 1) := by simp [jK_, q2']
  simp (disch := (first | omega | (simp only [ls_, la_, lc_, ln_]; first | done | omega))) only [nZ_, go_sem, Nat.reduceEqDiff, ↓reduceIte, q2', bO_, Option.map_some, dm_]
  rw [hR]
  exact ⟨⟨by first | exact aJ_.app _ _ | exact (aJ_.app _ _).set (by omega), hs_ (hO_ (by simp)) (by simp) _⟩, _, rfl, _, rfl⟩
 have hR : jK_ x c = bX_ x c := by simp [jK_, q1, q2]
 have hdo : aN_ Tryz.prog 171 [.agg [.list 0 3 (x.Nodes.map ab_.cells)], .agg [.val (.int .i64 c.Kind), .val (.string c.Name), .list 0 1 (c.Subs.map al_), .val (.string c.Value)]] (fb_ (bX_ x c)) h1_ := l9_ x c q1 q2 hz
 rw [hR]
 simp (disch := (first | omega | (simp only [ls_, la_, lc_, ln_]; first | done | omega))) only [aQ_, cs_, go_sem, Nat.reduceEqDiff, Nat.reduceAdd, ↓reduceIte, q2]
 refine bE_ hdo (fun av H1 m1 F1 q3 => ?_)
 obtain ⟨b, cb, v, rfl⟩ := q3
 obtain ⟨G, hv⟩ := F1.two
 simp only [AV.val.injEq, Value.int.injEq, true_and] at hv
 subst hv
 have cb' := cb
 simp only [AV.cell, Value.oneCell'] at cb'
 have l1 := m1.len
 simp only [la_, lc_, ln_] at l1
 have p2 := m1.at (i := h0.length + 2) (by rw [bW_]; rfl)
 simp (disch := (first | omega | (simp only [ls_, la_, lc_, ln_]; first | done | omega))) only [aG_, go_sem, Nat.reduceEqDiff, ↓reduceIte, p2, cb', dm_]
 exact ⟨⟨((aJ_.app h0 _).trans m1).set (by omega), hs_ ((G.tree.keep fun z q _ => ar_ (by simp at q; omega)).widen (by simp) (by simp)) (by simp; omega) _⟩, _, cb, _, rfl⟩
def c84 : LC :=
 .seq (.ops [.s 2 (.box 30 (.tmp 0)), .s 3 (.box 79 (.tmp 1)), .s 4 (.alloc 30 (.agg #[.slice none 0 0])), .ki 5 0]) (.seq (.gops [.ld 6 1 2, .ld 7 5 3] [(.c1 8 134 7, [.ld 6 1 2]), (.c2 9 133 6 8, []), (.ex 10 9 0, []),
 (.ex 11 9 1, []), (.st 1 4 10, []), (.m 5 11, [])]) .ret)
def Ct_ : LF := ⟨2, 12, c84, [.cell 4 (some 1), .tmp 5]⟩
theorem DX_ : at_ Tryz.prog Tryz.f84 Ct_ := ai_
theorem kj_ (x : ad_) (e : ac_) (hx : aL_ x = true) (hn : by_ e = true) (ht : b4_ e = true) (hz : ac_.sz e ≤ 1048576) : aN_ Tryz.prog 84 [.agg (ad_.cells x), .agg (ac_.cells e)] (fb_ (bX_ x (dT_ e))) h1_ := by
 refine bM_ mixed Tryz.func84 DX_ rfl (fun h0 => ?_)
 have hch : aN_ Tryz.prog 134 [.agg [.val (.int .i64 e.Kind), .val (.string e.Name), .list 0 1 (e.Subs.map al_), .val (.string e.Value), .val (.int .i64 e.N)]] (.agg (a2_.cells (dT_ e))) (fun a => ∃ l, a = .agg [.val (.int .i64 (dT_ e).Kind), .val (.string e.Name), .own l e.Subs.length, .val (.string e.Value)]) := js_ e hz
 have hcz : a2_.sz (dT_ e) ≤ 1048576 := Nat.le_trans (Nat.le_refl (e.Name.size + au_ ByteArray.size e.Subs + e.Value.size)) hz
 have hdc : jK_ x (dT_ e) = bX_ x (dT_ e) := by simp [jK_, hx, lr_ hn ht]
 simp (disch := (first | omega | (simp only [ls_, la_, lc_, ln_]; first | done | omega))) only [aQ_, cs_, go_sem, Nat.reduceEqDiff, Nat.reduceAdd, ↓reduceIte, Ct_, c84, ad_.cells, ac_.cells]
 refine bE_ hch (fun av H1 m1 F1 q3 => ?_)
 obtain ⟨l, rfl⟩ := q3
 have l1 := m1.len
 simp only [la_, lc_, ln_] at l1
 have p0 := m1.at (i := h0.length) (by rw [cn_]; rfl)
 have p2 := m1.at (i := h0.length + 2) (by rw [bW_]; rfl)
 simp (disch := (first | omega | (simp only [ls_, la_, lc_, ln_]; first | done | omega))) only [go_sem, Nat.reduceEqDiff, ↓reduceIte, p0]
 refine dV_ (j5_ x (dT_ e) (cV_ hx) hcz) (a1_.cons (bG_.same rfl) (a1_.cons F1.arg.any a1_.nil)) (fun av H2 m2 F2 q4 => ?_)
 obtain ⟨b, cb, v, rfl⟩ := q4
 obtain ⟨G, hv⟩ := F2.two
 simp only [AV.val.injEq, Value.int.injEq, true_and] at hv
 subst hv
 rw [hdc] at G ⊢
 have cb' := cb
 simp only [AV.cell, Value.oneCell'] at cb'
 have l2 := m2.len
 have p3 := m2.at p2
 simp (disch := (first | omega | (simp only [ls_, la_, lc_, ln_]; first | done | omega))) only [aG_, go_sem, Nat.reduceEqDiff, ↓reduceIte, p3, cb', dm_]
 exact ⟨⟨(((aJ_.app h0 _).trans m1).trans m2).set (by omega), hs_ ((G.tree.keep fun z q _ => ar_ (by omega)).widen (by omega) (by simp)) (by simp; omega) _⟩, _, cb, _, rfl⟩
theorem uO_ {e : ac_} (hn : by_ e = true) (hr : bC_ e = false) : b4_ e = true := by
 cases ht : b4_ e
 ·rw [p8_ hn ht] at hr; cases hr
 ·rfl
theorem s6_ {e : ac_} (hr : bC_ e = true) : b4_ e = false := by
 simp only [bC_, Bool.or_eq_true, decide_eq_true_eq] at hr
 simp only [b4_, Bool.or_eq_false_iff, decide_eq_false_iff_not]
 omega
structure kX_ (L : Nat) (a0 : AV) (x0 : ad_) (h : List Row) (y : ad_) : Prop where
 out : ∃ a, h[L]? = some ⟨30, 1, [[a]]⟩ ∧ a.cell = true ∧ ((a = a0 ∧ y = x0) ∨ aA_ (L + 2) h.length h (.agg [a]) (.agg (ad_.cells y)))
theorem kX_.lt {L : Nat} {a0 : AV} {x0 y : ad_} {h : List Row} (T : kX_ L a0 x0 h y) : L < h.length := by
 obtain ⟨a, o, _⟩ := T
 exact (List.getElem?_eq_some_iff.1 o).1
theorem kX_.keep {L : Nat} {a0 : AV} {x0 y : ad_} {h h' : List Row} (T : kX_ L a0 x0 h y) (hk : ∀ z, L ≤ z → z < h.length → z ≠ L + 1 → h'[z]? = h[z]?) (hl : h.length ≤ h'.length) : kX_ L a0 x0 h' y := by
 have hL := T.lt
 obtain ⟨a, o, ca, hF⟩ := T
 refine ⟨a, (hk L (Nat.le_refl _) hL (by omega)).trans o, ca, ?_⟩
 rcases hF with q | q
 ·exact .inl q
 ·exact .inr ((q.keep fun z q1 q2 => hk z (by omega) q2 (by omega)).widen (Nat.le_refl _) hl)
def c43 : LC :=
 .seq (.ops [.s 2 (.box 30 (.tmp 0)), .s 4 (.alloc 30 (.agg #[.slice none 0 0])), .ki 5 0, .ki 6 0]) (.seq (.seq (.ops [.ki 7 0]) (.block 0 (.loop (.seq (.seq (.ops [.m 10 7, .m 11 1, .ll 12 11, .bb 13 .lss false 10 12])
 (.cond (.tmp 13) .skip (.exit 0))) (.seq (.block 1 (.seq (.seq (.ops [.m 16 1, .m 17 7, .ia 18 5 16 17, .ld 19 5 18, .c1 20 81 19]) (.cond (.tmp 20) (.seq (.seq (.gops [.ld 21 1 2, .m 22 1, .m 23 7, .ia 24 5 22 23, .ld
 25 5 24, .m 27 1, .m 28 7, .ia 29 5 27 28, .ld 30 5 29] [(.c2 26 83 21 25, [.m 27 1, .m 28 7, .ia 29 5 27 28, .ld 30 5 29]), (.c2 31 82 26 30, []), (.nt 32 31, [])]) (.cond (.tmp 32) (.seq (.ops [.s 33 (.build (.agg
 #[.slice none 0 0]) [(0, 1)] []), .m 34 7, .st 1 4 33, .m 5 34, .ki 6 5]) .ret) .skip)) (.exit 1)) .skip)) (.seq (.gops [.ld 36 1 2, .m 37 1, .m 38 7, .ia 39 5 37 38, .ld 40 5 39] [(.c2 41 84 36 40, []), (.m 35 41, []),
 (.ex 42 35 0, []), (.ex 43 35 1, []), (.s 8 (.alloc 30 (.agg #[.slice none 0 0])), [.ld 36 1 2, .m 37 1, .m 38 7, .ia 39 5 37 38, .ld 40 5 39]), (.st 1 8 42, []), (.m 9 43, [])]) (.seq (.seq (.ops [.m 44 9, .bk 45 .neq
 false 44 0]) (.cond (.tmp 45) (.seq (.ops [.s 46 (.build (.agg #[.slice none 0 0]) [(0, 1)] []), .m 47 7, .m 48 9, .st 1 4 46, .m 5 47, .m 6 48]) .ret) .skip)) (.ops [.ld 49 1 8, .st 1 2 49]))))) (.ops [.m 14 7, .bk 15
 .add false 14 1, .m 7 15])))))) (.seq (.ops [.ld 50 1 2, .st 1 4 50, .ki 5 0, .ki 6 0]) .ret))
def CI_ : LF := ⟨2, 51, c43, [.cell 4 (some 1), .tmp 5, .tmp 6]⟩
theorem DU_ : at_ Tryz.prog Tryz.f43 CI_ := rm_
theorem l8_ {H : List Row} {a0 : AV} {r : Nat} (x : ad_) (es : List ac_) (ca0 : a0.cell = true) (hA0 : ∀ X : List Row, aJ_ H X → bG_ X (.agg [a0]) (.agg (ad_.cells x))) (hx : aL_ x = true) (hn : ∀ e ∈ es, by_ e = true) (hz : au_ ac_.sz es ≤ 1048576) (hE : H[r]? = some ⟨79, 5, es.map ac_.cells⟩) {K : AV → List Row → Prop}
 (hk : ∀ (b : AV) (H' : List Row), aJ_ H H' → b.cell = true → ((b = a0 ∧ (b7_ x es 0).1 = x) ∨ aA_ H.length H'.length H' (.agg [b]) (.agg (ad_.cells (b7_ x es 0).1))) → K (.tup [.agg [b], .val (.int .i64 (b7_ x es 0).2.1), .val (.int .i64 (b7_ x es 0).2.2)]) H') :
 callSem Tryz.prog 43 [.agg [a0], .own r es.length] H K := by
 refine bf_ mixed Tryz.func43 DU_ (ch_ rfl ?_)
 have hl := aw_ hz
 have ca0' := ca0
 simp only [AV.cell, Value.oneCell'] at ca0'
 simp (disch := (first | omega | (simp only [ls_, la_, lc_, ln_]; first | done | omega))) only [go_sem, ↓reduceIte, CI_, c43, ca0']
 refine aM_ (fun n t h => ∃ (k : Nat) (y : ad_), t 1 = .own r es.length ∧ t 2 = .ptr H.length 1 0 0 ∧ t 4 = .ptr (H.length + 1) 1 0 0 ∧ t 7 = .val (.int .i64 k) ∧ aJ_ H h ∧ h[H.length + 1]? = some ⟨30, 1, [[.val (.slice none 0 0)]]⟩ ∧
  kX_ H.length a0 x h y ∧ aL_ y = true ∧ b7_ x es 0 = b7_ y (es.drop k) k ∧ n = es.length - k ∧ k ≤ es.length) es.length ⟨0, x, rfl, rfl, rfl, rfl, aJ_.app _ _, by rw [bW_]; rfl, ⟨a0, by rw [cn_]; rfl, ca0, .inl ⟨rfl, rfl⟩⟩, hx, rfl, rfl, Nat.zero_le _⟩ ?_
 rintro J hJ n t h ⟨k, y, t1, t2, t4, t7, hM, o1, T, hy, hS, rfl, hk'⟩
 have ml := hM.len
 have hlL := T.lt
 obtain ⟨a, o0, ca, hF⟩ := id T
 have hol := (List.getElem?_eq_some_iff.1 o1).1
 have ca' := ca
 simp only [AV.cell, Value.oneCell'] at ca'
 have hA : bG_ h (.agg [a]) (.agg (ad_.cells y)) := by
  rcases hF with ⟨rfl, rfl⟩ | q
  ·exact hA0 h hM
  ·exact q.arg.any
 have hnil : ∀ X : List Row, aJ_ H X → aA_ H.length X.length X (.agg [.val (.slice none 0 0)]) (.agg (ad_.cells ⟨[]⟩)) := fun X m => hO_ m.len
 have oe := hM.at hE
 have hrl := (List.getElem?_eq_some_iff.1 hE).1
 by_cases hlt : k < es.length
 ·have hnk := hn es[k] (List.getElem_mem hlt)
  have hzk : ac_.sz es[k] ≤ 1048576 := cj_ hz (List.getElem_mem hlt)
  have hrd : ∀ X, aa_ Tryz.prog 81 [.agg [.val (.int .i64 es[k].Kind), .val (.string es[k].Name), .list 0 1 (es[k].Subs.map al_), .val (.string es[k].Value), .val (.int .i64 es[k].N)]] X (.val (.bool (bC_ es[k]))) := fun X => iu_ es[k] X
  simp (disch := (first | omega | (simp only [ls_, la_, lc_, ln_]; first | done | omega))) only [go_sem, Nat.reduceEqDiff, Nat.reduceAdd, ↓reduceIte, t1, t7, hlt, oe, List.length_map, ac_.cells]
  refine aa_.call (hrd _) ?_
  cases hr : bC_ es[k]
  case true =>
   have ht := s6_ hr
   have hAp : bF_ y es[k] = if bB_ (bm_ y es[k]) es[k] = true then (y, 0) else (⟨[]⟩, 5) := by rw [bF_, if_neg (by rw [ht]; simp)]
   have hag : aN_ Tryz.prog 83 [.agg (ad_.cells y), .agg [.val (.int .i64 es[k].Kind), .val (.string es[k].Name), .list 0 1 (es[k].Subs.map al_), .val (.string es[k].Value), .val (.int .i64 es[k].N)]] (.agg (ac_.cells (bm_ y es[k]))) (gL_ es[k]) := j7_ y es[k] (cV_ hy) hzk hy hnk hr
   have hse : ∀ X, aa_ Tryz.prog 82 [.agg (ac_.cells (bm_ y es[k])), .agg [.val (.int .i64 es[k].Kind), .val (.string es[k].Name), .list 0 1 (es[k].Subs.map al_), .val (.string es[k].Value), .val (.int .i64 es[k].N)]] X (.val (.bool (bB_ (bm_ y es[k]) es[k]))) := fun X => jr_ (bm_ y es[k]) es[k] (lx_ hy hnk hzk) X
   simp (disch := (first | omega | (simp only [ls_, la_, lc_, ln_]; first | done | omega))) only [go_sem, Nat.reduceEqDiff, Nat.reduceAdd, ↓reduceIte, t1, t2, t7, o0, hlt, oe, List.length_map, ac_.cells]
   refine dV_ hag (a1_.cons hA (a1_.cons (bG_.same rfl) a1_.nil)) (fun av H1 m1 F1 q1 => ?_)
   obtain ⟨l, v, kk, rfl⟩ := q1
   have l1 := m1.len
   have p0 := m1.at o0
   have p1 := m1.at o1
   have hM1 : aJ_ H H1 := hM.trans m1
   have oe1 := m1.at oe
   simp (disch := (first | omega | (simp only [ls_, la_, lc_, ln_]; first | done | omega))) only [go_sem, Nat.reduceEqDiff, Nat.reduceAdd, ↓reduceIte, t1, t7, hlt, oe1, List.length_map, ac_.cells]
   refine aa_.call (aa_.anyR rfl hse (a1_.cons F1.tree.arg.any (a1_.cons (bG_.same rfl) a1_.nil))) ?_
   cases hq : bB_ (bm_ y es[k]) es[k]
   ·rw [hq] at hAp
    have hc : ¬ (bF_ y es[k]).2 = 0 := by rw [hAp]; simp
    rw [hS, hW_ hlt hc, hAp] at hk
    simp (disch := (first | omega | (simp only [ls_, la_, lc_, ln_]; first | done | omega))) only [aG_, go_sem, Nat.reduceEqDiff, ↓reduceIte, t4, t7, p1, bO_, Option.map_some, cx_]
    exact hk _ _ (hM1.set (by omega)) rfl (.inr (hnil _ (hM1.set (by omega))))
   ·rw [hq] at hAp
    have hc : (bF_ y es[k]).2 = 0 := by rw [hAp]; rfl
    have hA1 : (bF_ y es[k]).1 = y := by rw [hAp]; rfl
    simp (disch := (first | omega | (simp only [ls_, la_, lc_, ln_]; first | done | omega))) only [go_sem, Nat.reduceEqDiff, ↓reduceIte, t7]
    exact ⟨es.length - (k + 1), by omega, hJ _ _ _ ⟨k + 1, y, by simp [upd, t1], by simp [upd, t2], by simp [upd, t4], by simp [upd], hM1, p1, T.keep (fun z q1 q2 q3 => m1.kept z q2) l1, hy, by rw [hS, hK_ hlt hc, hA1], rfl, by omega⟩⟩
  case false =>
   have ht := uO_ hnk hr
   have hAp : bF_ y es[k] = bX_ y (dT_ es[k]) := by rw [bF_, if_pos ht]
   have htn : aN_ Tryz.prog 84 [.agg (ad_.cells y), .agg [.val (.int .i64 es[k].Kind), .val (.string es[k].Name), .list 0 1 (es[k].Subs.map al_), .val (.string es[k].Value), .val (.int .i64 es[k].N)]] (fb_ (bF_ y es[k])) h1_ := by
    rw [hAp]; exact kj_ y es[k] hy hnk ht hzk
   simp (disch := (first | omega | (simp only [ls_, la_, lc_, ln_]; first | done | omega))) only [go_sem, Nat.reduceEqDiff, Nat.reduceAdd, ↓reduceIte, t1, t2, t7, o0, hlt, oe, List.length_map, ac_.cells]
   refine dV_ htn (a1_.cons hA (a1_.cons (bG_.same rfl) a1_.nil)) (fun av H1 m1 F1 q1 => ?_)
   obtain ⟨b, cb, v, rfl⟩ := q1
   obtain ⟨G, hv⟩ := F1.two
   simp only [AV.val.injEq, Value.int.injEq, true_and] at hv
   subst hv
   have l1 := m1.len
   have cb' := cb
   simp only [AV.cell, Value.oneCell'] at cb'
   have p0 := m1.at o0
   have p1 := m1.at o1
   have hM1 : aJ_ H H1 := hM.trans m1
   have oe1 := m1.at oe
   by_cases hc : (bF_ y es[k]).2 = 0
   ·simp (disch := (first | omega | (simp only [ls_, la_, lc_, ln_]; first | done | omega))) only [ay_, aQ_, go_sem, Nat.reduceEqDiff, Nat.reduceAdd, ↓reduceIte, t1, t2, t7, p0, cb', hc, hlt, oe1, List.length_map, ac_.cells]
    refine ⟨es.length - (k + 1), by omega, hJ _ _ _ ⟨k + 1, (bF_ y es[k]).1, by simp [upd, t1], by simp [upd, t2], by simp [upd, t4], by simp [upd], ?_, ?_, ?_, kx_ hy hnk, by rw [hS, hK_ hlt hc], rfl, by omega⟩⟩
    ·first | exact (hM1.add _).set (by omega) | exact ((hM1.add _).set (by omega)).set (by omega) | exact (hM1.set (by omega)).add _
    ·(repeat (first | rw [ar_ (by omega)] | rw [ay_ (by first | omega | (simp only [ls_, la_, lc_, ln_]; omega))])); exact p1
    ·refine ⟨b, ?_, cb, .inr ((G.tree.keep fun z q1 q2 => by (repeat (first | rw [ar_ (by omega)] | rw [ay_ (by first | omega | (simp only [ls_, la_, lc_, ln_]; omega))]))).widen (by omega) (by simp))⟩
     first | exact aG_ (by simp; omega) | (rw [ar_ (by omega)]; exact aG_ (by simp; omega)) | (rw [ay_ (by simp; omega)]; exact aG_ (by omega))
   ·have hc' : ((bF_ y es[k]).2 = 0) = False := eq_false hc
    rw [hS, hW_ hlt hc] at hk
    simp (disch := (first | omega | (simp only [ls_, la_, lc_, ln_]; first | done | omega))) only [aG_, ay_, aQ_, go_sem, Nat.reduceEqDiff, Nat.reduceAdd, ↓reduceIte, t1, t2, t4, t7, p0, p1, cb', hc', hlt, oe1, List.length_map, ac_.cells, bO_, Option.map_some, cx_]
    have hM2 : ∀ r : Row, aJ_ H (H1 ++ [r]) := fun r => hM1.add _
    refine hk _ _ ?_ rfl (.inr (hnil _ ?_))
    all_goals first | exact (hM2 _).set (by omega) | exact ((hM2 _).set (by omega)).set (by omega) | exact hM2 _
 ·rw [hS, li_ (by omega)] at hk
  simp (disch := (first | omega | (simp only [ls_, la_, lc_, ln_]; first | done | omega))) only [aG_, go_sem, Nat.reduceEqDiff, ↓reduceIte, t1, t2, t4, t7, o0, o1, ca', hlt, oe, List.length_map, cx_]
  refine hk _ _ (hM.set (by omega)) ca ?_
  rcases hF with q | q
  ·exact .inl q
  ·exact .inr ((q.keep fun z q1 q2 => ar_ (by omega)).widen (by omega) (by simp))
def c44 : LC :=
 .seq (.ops [.s 1 (.box 30 (.tmp 0)), .s 2 (.alloc 30 (.agg #[.slice none 0 0]))]) (.seq (.ops [.s 6 (.build (.agg #[.slice none 0 0]) [(0, 1)] []), .s 3 (.alloc 30 (.agg #[.slice none 0 0])), .st 1 3 6]) (.seq (.seq
 (.ops [.ki 4 0]) (.block 0 (.ghost (.loop (.seq (.seq (.ops [.m 7 4, .fa 8 0 1, .ln 9 8, .ll 10 9, .bb 11 .lss false 7 10]) (.cond (.tmp 11) .skip (.exit 0))) (.seq (.block 1 (.seq (.ops [.fa 14 0 1, .ln 15 14, .m 16 4,
 .ia 17 3 15 16, .ld 18 3 17, .s 5 (.alloc 112 (.agg #[.string ⟨#[]⟩, .slice none 0 0, .string ⟨#[]⟩])), .st 3 5 18]) (.seq (.ops [.fa 19 1 5, .ln 20 19, .c1 21 85 20, .fa 22 1 5, .st 1 22 21]) (.ops [.fa 23 0 3, .ln 24
 23, .ld 25 3 5, .s 26 (.buildSlice 112 3 (.agg #[.string ⟨#[]⟩, .slice none 0 0, .string ⟨#[]⟩]) 1 [(0, .tmp 25)]), .ap 27 112 3 56 24 26, .fa 28 0 3, .st 1 28 27])))) (.ops [.m 12 4, .bk 13 .add false 12 1, .m 4
 13]))))))) (.seq (.ops [.ld 29 1 3, .st 1 2 29]) .ret)))
def Cp_ : LF := ⟨1, 30, c44, [.cell 2 (some 1)]⟩
theorem Dv_ : at_ Tryz.prog Tryz.f44 Cp_ := ai_
theorem ka_ (x : ad_) (hx : ad_.sz x ≤ 1048576) : aN_ Tryz.prog 44 [.agg (ad_.cells x)] (.agg (ad_.cells x)) (fun a => ∃ l, a = .agg [.own l x.Nodes.length]) := by
 refine bM_ mixed Tryz.func44 Dv_ rfl (fun h0 => ?_)
 have hs := ad_.sz_Nodes hx
 have hl := aw_ hs
 have hm : ∀ e ∈ x.Nodes, ab_.sz e ≤ 1048576 := fun e he => by have := cd_ (f := ab_.sz) he; omega
 simp (disch := omega) only [Cp_, c44, ad_.cells, bO_, Option.map_some, go_sem, Nat.reduceEqDiff, Nat.reduceAdd, ↓reduceIte]
 refine kE_ (h0 ++ [⟨30, 1, [[.list 0 3 (x.Nodes.map ab_.cells)]]⟩, ⟨30, 1, [[.val (.slice none 0 0)]]⟩, ⟨30, 1, [[.own (h0.length + 3) 0]]⟩, ⟨112, 3, []⟩]) (fun t => nQ_ (h0 ++ [⟨30, 1, [[.list 0 3 (x.Nodes.map ab_.cells)]]⟩, ⟨30, 1, [[.val (.slice none 0 0)]]⟩]) [] (.ty 30) 1 [] [] 112 3 (h0.length + 3) (by simp) (by simp) (by simp)) ?_
 refine aM_ (fun n t h => ∃ (k : Nat) (done : List (List AV)), t 1 = .ptr h0.length 1 0 0 ∧ t 2 = .ptr (h0.length + 1) 1 0 0 ∧ t 3 = .ptr (h0.length + 2) 1 0 0 ∧ t 4 = .val (.int .i64 k) ∧ aJ_ h0 h ∧
  h[h0.length]? = some ⟨30, 1, [[.list 0 3 (x.Nodes.map ab_.cells)]]⟩ ∧ h[h0.length + 1]? = some ⟨30, 1, [[.val (.slice none 0 0)]]⟩ ∧ h[h0.length + 2]? = some ⟨30, 1, [[.own (h0.length + 3) k]]⟩ ∧
  cH_ (h0.length + 3) h 112 3 done ((x.Nodes.take k).map ab_.cells) ∧ done.length = k ∧ n = x.Nodes.length - k ∧ k ≤ x.Nodes.length) x.Nodes.length ?_ ?_
 ·exact ⟨0, [], rfl, rfl, rfl, rfl, aJ_.app _ _, by rw [cn_]; rfl, by rw [bW_]; rfl, by rw [bW_]; rfl, cH_.zero (by rw [bW_]; rfl), rfl, rfl, Nat.zero_le _⟩
 rintro J hJ n t h ⟨k, done, t1, t2, t3, t4, hM, o0, o1, o2, hG, hd, rfl, hk⟩
 have o3 := hG.row
 have ml := hM.len
 have gl := hG.lt
 by_cases hlt : k < x.Nodes.length
 ·have hsl := aw_ (ab_.sz_Subs (hm _ (List.getElem_mem hlt)))
  simp (disch := (first | omega | (simp only [ls_, la_, lc_, ln_]; first | done | omega))) only [aQ_, go_sem, Nat.reduceEqDiff, Nat.reduceAdd, ↓reduceIte, t1, t4, o0, hlt, ab_.cells]
  refine bE_ (d1_ x.Nodes[k].Subs hsl) (fun av H1 m1 F1 q1 => ?_)
  obtain ⟨l, rfl⟩ := q1
  have l1 := m1.len
  simp only [la_, lc_, ln_] at l1
  have pN : H1[h.length]? = some ⟨112, 3, [[.val (.string x.Nodes[k].Name), .list 0 1 (x.Nodes[k].Subs.map al_), .val (.string x.Nodes[k].Value)]]⟩ := m1.at (by first | exact aQ_ rfl | exact aG_ (by simp))
  have keep : ∀ z, z < h.length → H1[z]? = h[z]? := fun z q => by
   rw [m1.kept z (by simp; omega)]; (repeat (first | rw [ar_ (by omega)] | rw [ay_ (by first | omega | (simp only [ls_, la_, lc_, ln_]; omega))]))
  have p0 := (keep _ (by omega)).trans o0
  have p1 := (keep _ (by omega)).trans o1
  have p2 := (keep _ (by omega)).trans o2
  have p3 := (keep _ (by omega)).trans o3
  simp (disch := (first | omega | (simp only [ls_, la_, lc_, ln_]; first | done | omega))) only [ar_, aG_, ay_, aQ_, ls_, go_sem, Nat.reduceEqDiff, Nat.reduceAdd, Nat.reduceLeDiff, ↓reduceIte, t3, t4, p2, p3, pN, hd]
  repeat (refine And.intro (by first | omega | (exact strs_cellv _) | assumption | (simp; done)) ?_)
  refine ⟨x.Nodes.length - (k + 1), by omega, hJ _ _ _ ⟨k + 1, done ++ [[.val (.string x.Nodes[k].Name), .own l x.Nodes[k].Subs.length, .val (.string x.Nodes[k].Value)]], by simp [upd, t1], by simp [upd, t2], by simp [upd, t3], by simp [upd], ?_, ?_, ?_, ?_, ?_, by simp [hd], rfl, by omega⟩⟩
  ·exact ⟨by simp; omega, fun z q => by (repeat (first | rw [ar_ (by omega)] | rw [ay_ (by first | omega | (simp only [ls_]; omega))])); rw [keep z (by omega)]; exact hM.kept z q⟩
  ·(repeat (first | rw [ar_ (by omega)] | rw [ay_ (by first | omega | (simp only [ls_]; omega))])); exact p0
  ·(repeat (first | rw [ar_ (by omega)] | rw [ay_ (by first | omega | (simp only [ls_]; omega))])); exact p1
  ·first | exact aG_ (by simp; omega) | ((repeat (first | rw [ar_ (by omega)] | rw [ay_ (by first | omega | (simp only [ls_, la_, lc_, ln_]; omega))])); exact aG_ (by simp; omega))
  ·rw [List.take_succ_eq_append_getElem hlt, List.map_append]
   refine hG.step (H1 := H1.set h.length ⟨112, 3, [[.val (.string x.Nodes[k].Name), .own l x.Nodes[k].Subs.length, .val (.string x.Nodes[k].Value)]]⟩) ((an_.val _ (an_.cons (F1.tree.keep fun y q1 q2 => ar_ (by simp at q1; omega)) (an_.val _ (an_.nil _ _ _)) ⟨by simp; omega, Nat.le_refl _⟩)).widen (by simp) (by simp)) (by simp; omega) (fun y q1 q2 => by rw [ar_ (by omega)]; exact keep y q2) (by simp) (fun y q1 q2 => by simp only [ls_] at q2; (repeat (first | rw [ar_ (by omega)] | rw [ay_ (by first | omega | (simp only [ls_]; omega))])); try rfl) ?_
   first | exact aG_ (by simp; omega) | ((repeat (first | rw [ar_ (by omega)] | rw [ay_ (by first | omega | (simp only [ls_, la_, lc_, ln_]; omega))])); exact aG_ (by simp; omega))
 ·simp (disch := (first | omega | (simp only [ls_, la_, lc_, ln_]; first | done | omega))) only [aG_, go_sem, Nat.reduceEqDiff, ↓reduceIte, t1, t2, t3, t4, o0, o1, o2, hlt]
  have e : k = x.Nodes.length := by omega
  subst e
  rw [List.take_length] at hG
  have g2 := hG.more (H' := h.set (h0.length + 1) ⟨30, 1, [[.own (h0.length + 3) x.Nodes.length]]⟩) (by simp) (fun y q1 q2 => by rw [List.getElem?_set_ne (by omega)])
  exact ⟨⟨hM.set (by omega), (aA_.agg (an_.cons (g2.done hd) (an_.nil _ _ _) ⟨Nat.le_of_lt g2.lt, Nat.le_refl _⟩)).widen (by omega) (Nat.le_refl _)⟩, _, rfl⟩
theorem ut_ {H X : List Row} {b : AV} {x y : ad_} (h : (b = .list 0 3 (x.Nodes.map ab_.cells) ∧ y = x) ∨ aA_ H.length X.length X (.agg [b]) (.agg (ad_.cells y))) {X' : List Row} (m : ∀ z, H.length ≤ z → z < X.length → X'[z]? = X[z]?) : bG_ X' (.agg [b]) (.agg (ad_.cells y)) := by
 rcases h with ⟨rfl, rfl⟩ | q
 ·exact bG_.same rfl
 ·exact (q.keep fun z q1 q2 => m z q1 q2).arg.any
def c65 : LC :=
 .seq (.ops [.s 2 (.mov (.const (.slice none 0 0)))]) (.seq (.ops [.s 5 (.buildSlice 79 5 (.agg #[.int .i64 0, .string ⟨#[]⟩, .slice none 0 0, .string ⟨#[]⟩, .int .i64 0]) 0 []), .m 3 5]) (.seq (.seq (.ops [.ki 4 0])
 (.block 0 (.loop (.seq (.seq (.ops [.m 6 4, .m 7 0, .ll 8 7, .bb 9 .lss false 6 8]) (.cond (.tmp 9) .skip (.exit 0))) (.seq (.block 1 (.ops [.m 12 3, .m 13 0, .m 14 4, .ia 15 6 13 14, .fa 16 1 15, .ld 17 5 16, .s 18
 (.buildSlice 79 5 (.agg #[.int .i64 0, .string ⟨#[]⟩, .slice none 0 0, .string ⟨#[]⟩, .int .i64 0]) 1 [(0, .tmp 17)]), .ap 19 79 5 72 12 18, .m 3 19])) (.ops [.m 10 4, .bk 11 .add false 10 1, .m 4 11])))))) (.seq (.ops
 [.m 20 3, .m 2 20]) .ret)))
def A1_ : LF := ⟨1, 21, c65, [.tmp 2]⟩
theorem DG_ : at_ Tryz.prog Tryz.f65 A1_ := ai_
theorem kG_ {H : List Row} (ds : List ah_) (hz : au_ ah_.sz ds ≤ 1048576) {K : AV → List Row → Prop}
 (hk : ∀ (l : Nat) (H' : List Row), aJ_ H H' → H'[l]? = some ⟨79, 5, (cO_ ds).map ac_.cells⟩ → K (.own l (cO_ ds).length) H') : callSem Tryz.prog 65 [.list 0 6 (ds.map ah_.cells)] H K := by
 refine bf_ mixed Tryz.func65 DG_ (ch_ rfl ?_)
 have hl := aw_ hz
 simp (disch := (first | omega | (simp only [ls_, la_, lc_, ln_]; first | done | omega))) only [go_sem, ↓reduceIte, A1_, c65]
 refine aM_ (fun n t h => ∃ (k : Nat), t 0 = .list 0 6 (ds.map ah_.cells) ∧ t 3 = .own H.length k ∧ t 4 = .val (.int .i64 k) ∧ aJ_ H h ∧ h[H.length]? = some ⟨79, 5, (cO_ (ds.take k)).map ac_.cells⟩ ∧ n = ds.length - k ∧ k ≤ ds.length) ds.length ⟨0, rfl, rfl, rfl, aJ_.app _ _, aQ_ rfl, rfl, Nat.zero_le _⟩ ?_
 rintro J hJ n t h ⟨k, t0, t3, t4, hM, o2, rfl, hk'⟩
 have ml := hM.len
 have g2 := (List.getElem?_eq_some_iff.1 o2).1
 have hel : (cO_ (ds.take k)).length = k := by simp [cO_]; omega
 by_cases hlt : k < ds.length
 ·simp (disch := (first | omega | (simp only [ls_, la_, lc_, ln_]; first | done | omega))) only [ay_, aQ_, go_sem, Nat.reduceEqDiff, Nat.reduceAdd, Nat.reduceLeDiff, reduceCtorEq, ↓reduceIte, t0, t3, t4, o2, hlt, hel, List.length_map, ah_.cells, List.nil_append]
  repeat (refine And.intro (by first | omega | (exact strs_cellv _) | assumption | (simp; done)) ?_)
  have e1 : cO_ (ds.take (k + 1)) = cO_ (ds.take k) ++ [ds[k].Event] := by
   unfold cO_; rw [List.take_succ_eq_append_getElem hlt, List.map_append]; rfl
  refine ⟨ds.length - (k + 1), by omega, hJ _ _ _ ⟨k + 1, by simp [upd, t0], by simp [upd], by simp [upd], ?_, ?_, rfl, by omega⟩⟩
  ·first | exact (hM.add _).set (by omega) | exact (((hM.add _).set (by omega)).add _).set (by omega)
  ·rw [e1, List.map_append]; exact aG_ (by simp; omega)
 ·have e : k = ds.length := by omega
  subst e
  rw [List.take_length] at o2 hel
  simp (disch := (first | omega | (simp only [ls_, la_, lc_, ln_]; first | done | omega))) only [go_sem, Nat.reduceEqDiff, reduceCtorEq, ↓reduceIte, t0, t3, t4, hlt]
  have := hk H.length h hM o2
  rw [hel] at this
  exact this
def c26 : LC :=
 .seq (.ops [.s 2 (.box 30 (.tmp 0)), .s 4 (.alloc 30 (.agg #[.slice none 0 0])), .ki 5 0, .ki 6 0]) (.seq (.seq (.ops [.ld 10 1 2, .c1 11 41 10, .nt 12 11, .m 13 12, .g 14 13 false (.mov (.tmp 1)), .g 15 13 false (.call
 64 [.tmp 14]), .g 16 13 false (.un .not (.tmp 15)), .pt 17 13 16]) (.cond (.tmp 17) (.seq (.ops [.s 18 (.build (.agg #[.slice none 0 0]) [(0, 1)] []), .st 1 4 18, .ki 5 0, .ki 6 1]) .ret) .skip)) (.seq (.gops [.ld 20 1
 2, .m 21 1] [(.c1 22 65 21, [.ld 20 1 2]), (.c2 23 43 20 22, []), (.m 19 23, []), (.ex 24 19 0, []), (.ex 25 19 1, []), (.ex 26 19 2, []), (.s 7 (.alloc 30 (.agg #[.slice none 0 0])), [.ld 20 1 2, .m 21 1]), (.st 1 7 24,
 []), (.m 8 25, []), (.m 9 26, [])]) (.seq (.ops [.ld 27 1 7, .c1 28 44 27, .m 29 8, .m 30 9, .st 1 4 28, .m 5 29, .m 6 30]) .ret)))
def zv_ : LF := ⟨2, 31, c26, [.cell 4 (some 1), .tmp 5, .tmp 6]⟩
theorem DS_ : at_ Tryz.prog Tryz.f26 zv_ := ai_
theorem ja_ (x : ad_) (ds : List ah_) (hx : ad_.sz x ≤ 1048576) (he : au_ ah_.sz ds ≤ 1048576) : aN_ Tryz.prog 26 [.agg (ad_.cells x), .list 0 6 (ds.map ah_.cells)] (jd_ (bK_ x ds)) pu_ := by
 refine bM_ mixed Tryz.func26 DS_ rfl (fun h0 => ?_)
 have htr : ∀ H, aa_ Tryz.prog 41 [.agg [.list 0 3 (x.Nodes.map ab_.cells)]] H (.val (.bool (aL_ x))) := fun H => cI_ x hx H
 have hno : ∀ H, aa_ Tryz.prog 64 [.list 0 6 (ds.map ah_.cells)] H (.val (.bool (cC_ ds))) := fun H => lE_ ds he H
 simp (disch := (first | omega | (simp only [ls_, la_, lc_, ln_]; first | done | omega))) only [aQ_, go_sem, Nat.reduceEqDiff, ↓reduceIte, zv_, c26, ad_.cells]
 refine aa_.call (htr _) ?_
 by_cases q1 : aL_ x = true
 case neg =>
  have q1' : aL_ x = false := by simpa using q1
  have hR : bK_ x ds = (⟨[]⟩, 0, 1) := by simp [bK_, q1']
  simp (disch := (first | omega | (simp only [ls_, la_, lc_, ln_]; first | done | omega))) only [cs_, go_sem, Nat.reduceEqDiff, ↓reduceIte, q1', bO_, Option.map_some, cx_]
  rw [hR]
  exact ⟨⟨by first | exact aJ_.app _ _ | exact (aJ_.app _ _).set (by omega), gT_ (hO_ (by simp)) (by simp) _ _⟩, _, rfl, _, _, rfl⟩
 simp (disch := (first | omega | (simp only [ls_, la_, lc_, ln_]; first | done | omega))) only [go_sem, Nat.reduceEqDiff, ↓reduceIte, q1]
 refine aa_.call (hno _) ?_
 by_cases q2 : cC_ ds = true
 case neg =>
  have q2' : cC_ ds = false := by simpa using q2
  have hR : bK_ x ds = (⟨[]⟩, 0, 1) := by simp [bK_, q2']
  simp (disch := (first | omega | (simp only [ls_, la_, lc_, ln_]; first | done | omega))) only [cs_, go_sem, Nat.reduceEqDiff, ↓reduceIte, q2', bO_, Option.map_some, cx_]
  rw [hR]
  exact ⟨⟨by first | exact aJ_.app _ _ | exact (aJ_.app _ _).set (by omega), gT_ (hO_ (by simp)) (by simp) _ _⟩, _, rfl, _, _, rfl⟩
 have hnt := p7_ q2
 have hR : bK_ x ds = b7_ x (cO_ ds) 0 := by rw [← sc_ q1 hnt]; simp [bK_, q1, q2]
 have hz : ad_.sz (b7_ x (cO_ ds) 0).1 ≤ 1048576 := by rw [← hR]; exact pA_ x ds
 rw [hR]
 simp (disch := (first | omega | (simp only [ls_, la_, lc_, ln_]; first | done | omega))) only [aQ_, go_sem, Nat.reduceEqDiff, ↓reduceIte, q2]
 refine kG_ ds he (fun lv H1 m1 oE => ?_)
 have p0 := m1.at (i := h0.length) (by rw [cn_]; rfl)
 have p1 := m1.at (i := h0.length + 1) (by rw [bW_]; rfl)
 have l1 := m1.len
 simp only [la_, lc_, ln_] at l1
 simp (disch := (first | omega | (simp only [ls_, la_, lc_, ln_]; first | done | omega))) only [go_sem, Nat.reduceEqDiff, ↓reduceIte, p0]
 refine l8_ x (cO_ ds) rfl (fun X _ => bG_.same rfl) q1 (kf_ hnt).2 (Nat.le_trans (pX_ ds) he) oE (fun b H2 m2 cb hb => ?_)
 have l2 := m2.len
 have cb' := cb
 simp only [AV.cell, Value.oneCell'] at cb'
 have p2 := m2.at p1
 have p02 := m2.at p0
 simp (disch := (first | omega | (simp only [ls_, la_, lc_, ln_]; first | done | omega))) only [ay_, aQ_, go_sem, Nat.reduceEqDiff, ↓reduceIte, p02, cb']
 refine dV_ (ka_ _ hz) (a1_.cons (ut_ hb ?_) a1_.nil) (fun av H3 m3 F3 q3 => ?_)
 ·intro z q1 q2
  (repeat (first | rw [ar_ (by omega)] | rw [ay_ (by first | omega | (simp only [ls_, la_, lc_, ln_]; omega))]))
 obtain ⟨l, rfl⟩ := q3
 have l3 := m3.len
 simp only [la_, lc_, ln_] at l3
 have p3 : H3[h0.length + 1]? = some ⟨30, 1, [[.val (.slice none 0 0)]]⟩ := m3.at (by (repeat (first | rw [ar_ (by omega)] | rw [ay_ (by first | omega | (simp only [ls_, la_, lc_, ln_]; omega))])); exact p2)
 have hM3 : aJ_ h0 H3 := ⟨by omega, fun z q => by
  rw [m3.kept z (by simp; omega)]; (repeat (first | rw [ar_ (by omega)] | rw [ay_ (by first | omega | (simp only [ls_, la_, lc_, ln_]; omega))]))
  rw [m2.kept z (by omega), m1.kept z (by simp; omega)]; (repeat (first | rw [ar_ (by omega)] | rw [ay_ (by first | omega | (simp only [ls_, la_, lc_, ln_]; omega))]))⟩
 simp (disch := (first | omega | (simp only [ls_, la_, lc_, ln_]; first | done | omega))) only [aG_, go_sem, Nat.reduceEqDiff, ↓reduceIte, p3, cx_]
 exact ⟨⟨hM3.set (by omega), gT_ ((F3.tree.keep fun z q _ => ar_ (by simp at q; omega)).widen (by simp; omega) (by simp)) (by simp; omega) _ _⟩, _, rfl, _, _, rfl⟩
theorem g4_ (x : ad_) (ds : List ah_) (hx : ad_.sz x ≤ 1048576) (he : au_ ah_.sz ds ≤ 1048576) (h : List Row) : aa_ Tryz.prog 26 [.agg (ad_.cells x), .list 0 6 (ds.map ah_.cells)] h (jd_ (bK_ x ds)) := (ja_ x ds hx he).pure rfl h
end Go.Proofs.YtfplhbjggecnpaaGreatDoor
