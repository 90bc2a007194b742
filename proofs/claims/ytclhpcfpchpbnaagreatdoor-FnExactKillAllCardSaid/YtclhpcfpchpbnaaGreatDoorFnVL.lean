/-
 Contracts of functions of this program, over abstract values. Conditions: as each theorem says.
-/
import Derived.Test.YtclhpcfpchpbnaaGreatDoorFnVK
namespace Go.Proofs.YtclhpcfpchpbnaaGreatDoor
open Go.AW
set_option linter.unusedVariables false
set_option linter.unusedSimpArgs false
set_option maxRecDepth 4000

/-- Nil in a cell of a row, looked at as an empty row. -/
theorem ghost_at {N : Nat} {t : Nat → AV} {h : List Row} {L : Nat} {E : Tag} {s : Nat} (pre post : List AV) (T : TypeId) (sz : Nat) (hL : h[L]? = some ⟨E, s, [pre ++ AV.val (.slice none 0 0) :: post]⟩) :
 Ghost N t h t (h.set L ⟨E, s, [pre ++ AV.own h.length 0 :: post]⟩ ++ [⟨.ty T, sz, []⟩]) := by
 have hlt := (List.getElem?_eq_some_iff.1 hL).1
 refine ghost_nil (.ty T) ⟨T, rfl⟩ sz (fun k => .inl rfl) (by simp) (look_new (by simp)) (fun l r' hl hr => ?_)
 rw [look_old (by simpa using hl)] at hr
 by_cases e : L = l
 ·subst e
  rw [look_hit hlt] at hr
  obtain rfl := Option.some.inj hr
  refine ⟨_, hL, rfl, rfl, ⟨_, [], rfl, ?_, rfl⟩⟩
  have : ∀ pre : List AV, CvL h.length (pre ++ AV.val (.slice none 0 0) :: post) (pre ++ AV.own h.length 0 :: post) := by
   intro pre
   induction pre with
   | nil => exact ⟨_, _, rfl, .inr ⟨rfl, rfl⟩, CvL.refl _ _⟩
   | cons a us ih => exact ⟨a, _, rfl, .inl rfl, ih⟩
  exact this pre
 ·rw [look_ne e] at hr
  exact ⟨r', hr, rfl, rfl, CvLL.refl _ _⟩
theorem ArgsAny.repPre {S : Sit} {H : List Row} {w : World} (m : Models S H w) : ∀ {us rs : List AV} {xs : List Value}, ArgsAny H us rs → RepPre S us xs → RepPre (S.shut w) rs xs ∧ rs.length = us.length
 | [], rs, xs, h, r => by
  unfold ArgsAny at h
  subst h
  simp [RepPre]
 | a :: us, rs, xs, h, r => by
  obtain ⟨d, ds, rfl, h1, h2⟩ := h
  simp only [RepPre] at r ⊢
  obtain ⟨v, q, e, r1, r2⟩ := r
  have := ArgsAny.repPre m h2 r2
  exact ⟨⟨v, q, e, h1.out S w v m r1, this.1⟩, by simp [this.2]⟩
/-- A box of many cells. -/
theorem ArgAny.boxL {H : List Row} {l : Nat} {E : Tag} {sz : Nat} {cs rs : List AV} (hl : H[l]? = some ⟨E, sz, [cs]⟩) (hn : 0 < cs.length) (hc : ArgsAny H cs rs) : ArgAny H (.ptr l 1 0 0) (.iptr rs) := ⟨fun S w x m hr => by
 simp only [Rep] at hr
 obtain ⟨_, i, q1, q2, q3⟩ := hr
 obtain ⟨k1, k2, k3, k4⟩ := m.rows l i _ q1 hl
 obtain ⟨b, hb, hx⟩ := q3 (by rw [k1]; rfl)
 rw [hb] at k4
 obtain ⟨_, c, _, j2, j3, j4, j5, j6⟩ := k4.2.cells (.inl (by simp))
 simp only [RepLL] at j3
 obtain ⟨p1, p2⟩ := ArgsAny.repPre m hc j3.1
 have hown : S.ownsB b = true := ownsB_iff.2 ⟨l, i, q1, hb⟩
 have k3' : cs.length = sz := k3 cs (by simp)
 have k1' : i.len = 1 := k1
 have k2' : i.sz = sz := k2
 simp only [Rep]
 refine ⟨b, 0, c, by simpa using hx, by simp [Sit.shut, hown, j2], ?_, ?_⟩
 ·rw [p2, k3', j4, k2', Nat.zero_add]
  have : 1 * sz ≤ i.cap * sz := Nat.mul_le_mul_right _ (by omega)
  omega
 ·rw [List.drop_zero]; exact p1⟩
/-- A call that reads, and gives a new map. -/
theorem map_args {P : Program} {f : FuncId} {us rs : List AV} {H : List Row} {R : List (Int × Value) → Prop} (hc : callSem P f rs [] fun av h' => ∃ l ents, av = .mp l ∧ h'[l]? = some ⟨.map ents, 0, []⟩ ∧ R ents) (ha : ArgsAny H us rs) {K : AV → List Row → Prop}
 (hk : ∀ ents, R ents → K (.mp H.length) (H ++ [⟨.map ents, 0, []⟩])) : callSem P f us H K := by
 intro S w vals hm hgl hr
 have hm0 : Models (S.shut w) [] w := ⟨hm.shut, rfl, by simp [Sit.shut], by simp [Sit.shut]⟩
 refine (hc (S.shut w) w vals hm0 (hgl.shut hm) (ha.rep hm hr)).mono ?_
 rintro e w' ⟨v, av, S1, h1, rfl, st, hm1, rv, l, ents, rfl, hl, hR⟩
 have bel : Go.RowKit.Below w.heap.size w w' := ⟨st.os, st.tape, st.output, st.size, fun k hk => st.block k hk (by rintro ⟨l, i, q, _⟩; simp [Sit.shut] at q)⟩
 have hm' := hm.below bel
 simp only [Rep] at rv
 obtain ⟨rv0, i, q1, q2⟩ := rv
 obtain ⟨k1, k2, k3, k4⟩ := hm1.rows l i _ q1 hl
 have k1' : i.len = 0 := k1
 obtain ⟨b, hb, hv⟩ := q2 k1'
 rw [hb] at k4
 have hbn : w.heap.size ≤ b := by
  rcases st.ownNew b ⟨l, i, q1, hb⟩ with ⟨l', i', q, _⟩ | q
  ·simp [Sit.shut] at q
  ·exact q
 have himm : S.imm b = none := by
  cases q : S.imm b with
  | none => rfl
  | some c => have := hm.immLt q; omega
 have hrl : S.rows.length = H.length := hm.len
 have hcase : ∀ (l' : Nat) (i' : Info), (S.rows ++ [i])[l']? = some i' → (l' < H.length ∧ S.rows[l']? = some i') ∨ (l' = H.length ∧ i' = i) := by
  intro l' i' q
  by_cases hlt : l' < H.length
  ·left; rw [List.getElem?_append_left (by omega)] at q; exact ⟨hlt, q⟩
  ·right
   have h2 := (List.getElem?_eq_some_iff.1 q).1
   simp only [List.length_append, List.length_cons, List.length_nil] at h2
   have e : l' = S.rows.length := by omega
   subst e
   rw [List.getElem?_append_right (Nat.le_refl _), Nat.sub_self] at q
   exact ⟨hrl, by simpa using q.symm⟩
 have hle : S.le { imm := S.imm, rows := S.rows ++ [i] } := ⟨fun _ _ e => e, fun l' i' e => ⟨i', by
  show (S.rows ++ _)[l']? = _
  rw [List.getElem?_append_left (List.getElem?_eq_some_iff.1 e).1]; exact e, Nat.le_refl _, fun _ => rfl⟩⟩
 refine ⟨v, .mp H.length, { imm := S.imm, rows := S.rows ++ [i] }, H ++ [⟨.map ents, 0, []⟩], rfl, ⟨hle, st.os, st.tape, st.output, st.size, fun b' h1 h2 => bel.block b' h1, fun b' hb' => ?_, fun b' c q => .inl q⟩, ⟨hm'.imm, by simp [hrl], fun l' i' r' q1' q2' => ?_, ?_⟩, ?_, hk ents hR⟩
 ·obtain ⟨l', i', p1, p2⟩ := hb'
  rcases hcase l' i' p1 with ⟨_, q⟩ | ⟨_, rfl⟩
  ·exact .inl ⟨l', i', q, p2⟩
  ·rw [hb] at p2; cases p2; exact .inr hbn
 ·rcases hcase l' i' q1' with ⟨hlt, q⟩ | ⟨rfl, rfl⟩
  ·rw [List.getElem?_append_left hlt] at q2'
   obtain ⟨z1, z2, z3, z4⟩ := hm'.rows l' i' r' q q2'
   refine ⟨z1, z2, z3, ?_⟩
   cases hbb : i'.blk with
   | none => rw [hbb] at z4; exact z4
   | some b' =>
    rw [hbb] at z4
    exact ⟨z4.1, z4.2.le hle rfl⟩
  ·rw [List.getElem?_append_right (Nat.le_refl _), Nat.sub_self] at q2'
   simp only [List.getElem?_cons_zero, Option.some.injEq] at q2'
   subst q2'
   refine ⟨k1, k2, k3, ?_⟩
   rw [hb]
   refine ⟨himm, ?_⟩
   have k5 := k4.2
   unfold Stored at k5 ⊢
   exact k5
 ·intro l1 l2 i1 i2 b' q1' q2' q3' q4'
  rcases hcase l1 i1 q1' with ⟨_, p⟩ | ⟨rfl, rfl⟩
  ·rcases hcase l2 i2 q2' with ⟨_, p'⟩ | ⟨rfl, rfl⟩
   ·exact hm.one l1 l2 i1 i2 b' p p' q3' q4'
   ·have := hm.ownLt ⟨l1, i1, p, q3'⟩
    rw [hb] at q4'; cases q4'; omega
  ·rcases hcase l2 i2 q2' with ⟨_, p'⟩ | ⟨rfl, rfl⟩
   ·have := hm.ownLt ⟨l2, i2, p', q4'⟩
    rw [hb] at q3'; cases q3'; omega
   ·rfl
 ·simp only [Rep]
  refine ⟨rv0, i, ?_, fun _ => ⟨b, hb, hv⟩⟩
  show (S.rows ++ [i])[H.length]? = _
  rw [← hrl, List.getElem?_append_right (Nat.le_refl _), Nat.sub_self]; rfl
/-- One element in another's place. -/
theorem SlAt.put3 {lo E sz l m : Nat} {H H' : List Row} {A B : List Tr} {u t' : Tr} (s : SlAt lo H E sz l m (A ++ u :: B)) (hrow : H'[l]? = some ⟨.ty E, sz, (A ++ t' :: B).map Tr.c⟩) (hw : t'.c.length = sz ∧ t'.c.all AV.cell = true) (ht : ∃ n, OwnL (Own H' n) t'.c t'.d t'.f) (hnd : t'.f.Nodup)
 (hf : ∀ x ∈ t'.f, x ∈ u.f ∨ (x ∉ foot l (A ++ u :: B) ∧ lo ≤ x ∧ x < H'.length)) (hkeep : ∀ x ∈ foot l (A ++ u :: B), x ≠ l → x ∉ u.f → H'[x]? = H[x]?) (hlen : H.length ≤ H'.length) : SlAt lo H' E sz l m (A ++ t' :: B) := by
 obtain ⟨q, h⟩ := s.tree
 obtain ⟨q2, ht⟩ := ht
 have hfl : ∀ u : Tr, foot l (A ++ u :: B) = l :: ((A.map Tr.f).flatten ++ (u.f ++ (B.map Tr.f).flatten)) := fun u => by simp [foot]
 have hone := s.one
 rw [hfl, List.nodup_cons, List.nodup_append, List.nodup_append] at hone
 obtain ⟨n1, n2, ⟨n3, n4, n5⟩, n6⟩ := hone
 have hmem : ∀ t : Tr, t ∈ A → t ∈ A ++ u :: B := fun t z => List.mem_append_left _ z
 have hmemB : ∀ t : Tr, t ∈ B → t ∈ A ++ u :: B := fun t z => List.mem_append_right _ (List.mem_cons_of_mem _ z)
 have inA : ∀ (t : Tr) x, t ∈ A → x ∈ t.f → x ∈ (A.map Tr.f).flatten := fun t x z y => List.mem_flatten.2 ⟨t.f, List.mem_map.2 ⟨t, z, rfl⟩, y⟩
 have inB : ∀ (t : Tr) x, t ∈ B → x ∈ t.f → x ∈ (B.map Tr.f).flatten := fun t x z y => List.mem_flatten.2 ⟨t.f, List.mem_map.2 ⟨t, z, rfl⟩, y⟩
 refine ⟨hrow, by have := s.le; simpa using this, fun t ht' => ?_, ⟨q + q2, fun t ht' => ?_⟩, ?_, fun x hx => ?_⟩
 ·rcases List.mem_append.1 ht' with z | z
  ·exact s.wide t (hmem t z)
  ·rcases List.mem_cons.1 z with z | z
   ·subst z; exact hw
   ·exact s.wide t (hmemB t z)
 ·rcases List.mem_append.1 ht' with z | z
  ·refine OwnL.up (n := q) (by omega) (OwnL.mono (fun a r g hg ho => ho.keep fun x hx => hkeep x (mem_foot (hmem t z) (hg x hx)) ?_ ?_) (h t (hmem t z)))
   ·intro e; subst e; exact s.apart (hmem t z) (hg x hx)
   ·intro e; exact n6 x (inA t x z (hg x hx)) x (List.mem_append_left _ e) rfl
  ·rcases List.mem_cons.1 z with z | z
   ·subst z; exact OwnL.up (by omega) ht
   ·refine OwnL.up (n := q) (by omega) (OwnL.mono (fun a r g hg ho => ho.keep fun x hx => hkeep x (mem_foot (hmemB t z) (hg x hx)) ?_ ?_) (h t (hmemB t z)))
    ·intro e; subst e; exact s.apart (hmemB t z) (hg x hx)
    ·intro e; exact n5 x e x (inB t x z (hg x hx)) rfl
 ·rw [hfl, List.nodup_cons, List.nodup_append, List.nodup_append]
  have old : ∀ x ∈ t'.f, x ∈ u.f ∨ x ∉ foot l (A ++ u :: B) := fun x hx => (hf x hx).imp id fun z => z.1
  rw [hfl] at old
  refine ⟨fun z => ?_, n2, ⟨hnd, n4, fun x hx y hy e => ?_⟩, fun x hx y hy e => ?_⟩
  ·rcases List.mem_append.1 z with z | z
   ·exact n1 (List.mem_append_left _ z)
   ·rcases List.mem_append.1 z with z | z
    ·rcases old _ z with w | w
     ·exact n1 (List.mem_append_right _ (List.mem_append_left _ w))
     ·exact w List.mem_cons_self
    ·exact n1 (List.mem_append_right _ (List.mem_append_right _ z))
  ·subst e
   rcases old _ hx with w | w
   ·exact n5 x w x hy rfl
   ·exact w (List.mem_cons_of_mem _ (List.mem_append_right _ (List.mem_append_right _ hy)))
  ·subst e
   rcases List.mem_append.1 hy with z | z
   ·rcases old _ z with w | w
    ·exact n6 x hx x (List.mem_append_left _ w) rfl
    ·exact w (List.mem_cons_of_mem _ (List.mem_append_left _ hx))
   ·exact n6 x hx x (List.mem_append_right _ z) rfl
 ·rw [hfl] at hx
  have lows := fun y hy => s.lows y hy
  rw [hfl] at lows
  rcases List.mem_cons.1 hx with z | z
  ·subst z; have := lows x List.mem_cons_self; omega
  ·rcases List.mem_append.1 z with z | z
   ·have := lows x (List.mem_cons_of_mem _ (List.mem_append_left _ z)); omega
   ·rcases List.mem_append.1 z with z | z
    ·rcases hf x z with w | w
     ·have := lows x (List.mem_cons_of_mem _ (List.mem_append_right _ (List.mem_append_left _ w))); omega
     ·omega
    ·have := lows x (List.mem_cons_of_mem _ (List.mem_append_right _ (List.mem_append_right _ z))); omega
theorem impl_Locals_used_iptr (x : GLocals) (hx : GLocals.sz x ≤ 1048576) {H : List Row} {K : AV → List Row → Prop}
 (hK : ∀ H' ents, More H H' → H'[H.length]? = some ⟨.map ents, 0, []⟩ → (∀ n, (ents.lookup n).getD (.bool false) = .bool (usedB x n)) → K (.mp H.length) H') : callSem Tryz.prog 105 [.iptr [.val (.int .i64 x.Next), .list 0 2 (x.Binds.map GBind.cells), .list 0 2 (x.Cells.map GCell.cells), .list 0 1 (x.Levels.map GLevel.cells)]] H K := by
 refine call_of_fnWp mixed Tryz.func105 low105 (fnWp_of rfl ?_)
 have hB := szList_len (GLocals.sz_Binds hx)
 have hV := szList_len (GLocals.sz_Levels hx)
 have hm : ∀ a ∈ x.Levels, a.Saved.length ≤ 1048576 := fun a ha => szList_len (GLevel.sz_Saved (szList_le (GLocals.sz_Levels hx) ha))
 simp (disch := (first | omega | (simp only [List.length_set, List.length_append, List.length_cons, List.length_nil]; first | done | omega))) only [go_sem, Nat.reduceAdd, Nat.reduceLeDiff, reduceCtorEq, ↓reduceIte, lf105, c105]
 refine Ex_loop (fun n t h => ∃ (k : Nat) (ents : List (Int × Value)), t 0 = .iptr [.val (.int .i64 x.Next), .list 0 2 (x.Binds.map GBind.cells), .list 0 2 (x.Cells.map GCell.cells), .list 0 1 (x.Levels.map GLevel.cells)] ∧ t 3 = .mp H.length ∧ t 14 = .list 0 2 (x.Binds.map GBind.cells) ∧ t 15 = .val (.int .i64 x.Binds.length) ∧ t 16 = .val (.int .i64 k) ∧
  More H h ∧ h[H.length]? = some ⟨.map ents, 0, []⟩ ∧ (∀ n, (ents.lookup n).getD (.bool false) = .bool ((x.Binds.take k).any fun b => decide (b.Cell = n))) ∧ n = x.Binds.length - k ∧ k ≤ x.Binds.length) x.Binds.length ?_ ?_
 ·exact ⟨0, [], rfl, rfl, rfl, rfl, rfl, More.app _ _, by rw [getA0]; rfl, fun n => by simp [List.lookup], rfl, Nat.zero_le _⟩
 rintro J hJ n t h ⟨k, ents, t0, t3, t14, t15, t16, hM, o1, hL, rfl, hk⟩
 have ml := hM.len
 have h1l : H.length < h.length := (List.getElem?_eq_some_iff.1 o1).1
 by_cases hlt : k < x.Binds.length
 ·have hget : (x.Binds)[k]? = some x.Binds[k] := List.getElem?_eq_getElem hlt
  simp (disch := (first | omega | (simp only [List.length_set, List.length_append, List.length_cons, List.length_nil]; first | done | omega))) only [look_old, look_new, go_sem, Nat.reduceEqDiff, Nat.reduceAdd, ↓reduceIte, t3, t14, t15, t16, o1, hlt, GBind.cells]
  refine ⟨x.Binds.length - (k + 1), by omega, hJ _ _ _ ⟨k + 1, mapSet ents x.Binds[k].Cell (.bool true), by simp [upd, t0], by simp [upd, t3], by simp [upd, t14], by simp [upd, t15], by simp [upd], (hM.add _).set (Nat.le_refl _), look_hit (by simp; omega), fun n => ?_, rfl, by omega⟩⟩
  rw [get_mset hL n, any_snoc _ _ hlt]
 have hBk : x.Binds.take k = x.Binds := List.take_of_length_le (by omega)
 rw [hBk] at hL
 simp (disch := (first | omega | (simp only [List.length_set, List.length_append, List.length_cons, List.length_nil]; first | done | omega))) only [go_sem, Nat.reduceAdd, Nat.reduceLeDiff, reduceCtorEq, ↓reduceIte, t0, t15, t16, hlt]
 refine Ex_loop (fun n t h => ∃ (k : Nat) (ents : List (Int × Value)), t 0 = .iptr [.val (.int .i64 x.Next), .list 0 2 (x.Binds.map GBind.cells), .list 0 2 (x.Cells.map GCell.cells), .list 0 1 (x.Levels.map GLevel.cells)] ∧ t 3 = .mp H.length ∧ t 27 = .list 0 1 (x.Levels.map GLevel.cells) ∧ t 28 = .val (.int .i64 x.Levels.length) ∧ t 29 = .val (.int .i64 k) ∧
  More H h ∧ h[H.length]? = some ⟨.map ents, 0, []⟩ ∧ (∀ n, (ents.lookup n).getD (.bool false) = .bool ((x.Binds.any fun b => decide (b.Cell = n)) || (x.Levels.take k).any fun v => v.Saved.any fun b => decide (b.Cell = n))) ∧ n = x.Levels.length - k ∧ k ≤ x.Levels.length) x.Levels.length ?_ ?_
 ·exact ⟨0, ents, by simp [upd, t0], by simp [upd, t3], by simp [upd], by simp [upd], by simp [upd], hM, o1, fun n => by rw [hL n]; simp, rfl, Nat.zero_le _⟩
 clear o1 hL ml h1l t0 t3 t14 t15 t16 hlt hBk hk hJ hM
 rintro J2 hJ2 n t h ⟨k, ents, t0, t3, t27, t28, t29, hM, o1, hL, rfl, hk⟩
 have ml := hM.len
 have h1l : H.length < h.length := (List.getElem?_eq_some_iff.1 o1).1
 by_cases hlt : k < x.Levels.length
 ·have hlk := hm _ (List.getElem_mem hlt)
  simp (disch := (first | omega | (simp only [List.length_set, List.length_append, List.length_cons, List.length_nil]; first | done | omega))) only [look_new, go_sem, Nat.reduceEqDiff, ↓reduceIte, t27, t28, t29, hlt, GLevel.cells]
  refine Ex_loop (fun n t h => ∃ (j : Nat) (ents : List (Int × Value)), t 0 = .iptr [.val (.int .i64 x.Next), .list 0 2 (x.Binds.map GBind.cells), .list 0 2 (x.Cells.map GCell.cells), .list 0 1 (x.Levels.map GLevel.cells)] ∧ t 3 = .mp H.length ∧ t 27 = .list 0 1 (x.Levels.map GLevel.cells) ∧ t 28 = .val (.int .i64 x.Levels.length) ∧ t 29 = .val (.int .i64 k) ∧
   t 34 = .list 0 2 (x.Levels[k].Saved.map GBind.cells) ∧ t 35 = .val (.int .i64 x.Levels[k].Saved.length) ∧ t 36 = .val (.int .i64 j) ∧
   More H h ∧ h[H.length]? = some ⟨.map ents, 0, []⟩ ∧ (∀ n, (ents.lookup n).getD (.bool false) = .bool (((x.Binds.any fun b => decide (b.Cell = n)) || (x.Levels.take k).any fun v => v.Saved.any fun b => decide (b.Cell = n)) || (x.Levels[k].Saved.take j).any fun b => decide (b.Cell = n))) ∧ n = x.Levels[k].Saved.length - j ∧ j ≤ x.Levels[k].Saved.length) x.Levels[k].Saved.length ?_ ?_
  ·exact ⟨0, ents, by simp [upd, t0], by simp [upd, t3], by simp [upd, t27], by simp [upd, t28], by simp [upd, t29], by simp [upd], by simp [upd], by simp [upd], hM.add _, by rw [look_old h1l]; exact o1, fun n => by rw [hL n]; simp, rfl, Nat.zero_le _⟩
  clear o1 hL ml h1l t0 t3 t27 t28 t29 hM
  rintro J3 hJ3 n t h ⟨j, ents, t0, t3, t27, t28, t29, t34, t35, t36, hM, o1, hL, rfl, hj⟩
  have ml := hM.len
  have h1l : H.length < h.length := (List.getElem?_eq_some_iff.1 o1).1
  by_cases hjl : j < x.Levels[k].Saved.length
  ·have hget : (x.Levels[k].Saved)[j]? = some x.Levels[k].Saved[j] := List.getElem?_eq_getElem hjl
   simp (disch := (first | omega | (simp only [List.length_set, List.length_append, List.length_cons, List.length_nil]; first | done | omega))) only [look_old, look_new, go_sem, Nat.reduceEqDiff, Nat.reduceAdd, ↓reduceIte, t3, t34, t35, t36, o1, hjl, GBind.cells]
   refine ⟨x.Levels[k].Saved.length - (j + 1), by omega, hJ3 _ _ _ ⟨j + 1, mapSet ents x.Levels[k].Saved[j].Cell (.bool true), by simp [upd, t0], by simp [upd, t3], by simp [upd, t27], by simp [upd, t28], by simp [upd, t29], by simp [upd, t34], by simp [upd, t35], by simp [upd], (hM.add _).set (Nat.le_refl _), look_hit (by simp; omega), fun n => ?_, rfl, by omega⟩⟩
   rw [get_mset hL n, any_snoc _ _ hjl, Bool.or_assoc]
  ·have hjk : x.Levels[k].Saved.take j = x.Levels[k].Saved := List.take_of_length_le (by omega)
   rw [hjk] at hL
   simp (disch := (first | omega | (simp only [List.length_set, List.length_append, List.length_cons, List.length_nil]; first | done | omega))) only [go_sem, Nat.reduceEqDiff, ↓reduceIte, t29, t35, t36, hjl]
   exact ⟨x.Levels.length - (k + 1), by omega, hJ2 _ _ _ ⟨k + 1, ents, by simp [upd, t0], by simp [upd, t3], by simp [upd, t27], by simp [upd, t28], by simp [upd], hM, o1, fun n => by rw [hL n, any_snoc _ _ hlt, Bool.or_assoc], rfl, by omega⟩⟩
 ·have hVk : x.Levels.take k = x.Levels := List.take_of_length_le (by omega)
  rw [hVk] at hL
  simp (disch := (first | omega | (simp only [List.length_set, List.length_append, List.length_cons, List.length_nil]; first | done | omega))) only [go_sem, Nat.reduceEqDiff, ↓reduceIte, t3, t28, t29, hlt]
  exact hK _ _ hM o1 hL

end Go.Proofs.YtclhpcfpchpbnaaGreatDoor
