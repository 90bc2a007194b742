/-
  AW, part 39: a nil slice looked at as an empty row of the call's own; rows that grow.
-/
import Derived.Test.YtleolgjneaekcabGreatDoorAwLaw2
namespace Go.AW
set_option linter.unusedVariables false
set_option linter.unusedSimpArgs false

/-- The same cell, or nil looked at as the empty row L. -/
def Cv (L : Nat) (a b : AV) : Prop := b = a ∨ (a = .val (.slice none 0 0) ∧ b = .own L 0)
def CvL (L : Nat) : List AV → List AV → Prop
  | [], bs => bs = []
  | a :: as, bs => ∃ b r, bs = b :: r ∧ Cv L a b ∧ CvL L as r
def CvLL (L : Nat) : List (List AV) → List (List AV) → Prop
  | [], bs => bs = []
  | a :: as, bs => ∃ b r, bs = b :: r ∧ CvL L a b ∧ CvLL L as r
theorem CvL.len {L : Nat} : ∀ {as bs : List AV}, CvL L as bs → bs.length = as.length
  | [], bs, h => by unfold CvL at h; subst h; rfl
  | a :: as, bs, h => by
    unfold CvL at h
    obtain ⟨b, r, rfl, _, h2⟩ := h
    simp [h2.len]
theorem CvL.refl (L : Nat) : ∀ as : List AV, CvL L as as
  | [] => rfl
  | a :: as => ⟨a, as, rfl, .inl rfl, CvL.refl L as⟩
theorem CvLL.refl (L : Nat) : ∀ as : List (List AV), CvLL L as as
  | [] => rfl
  | a :: as => ⟨a, as, rfl, CvL.refl L a, CvLL.refl L as⟩
theorem CvLL.len {L : Nat} : ∀ {as bs : List (List AV)}, CvLL L as bs → bs.length = as.length
  | [], bs, h => by unfold CvLL at h; subst h; rfl
  | a :: as, bs, h => by
    unfold CvLL at h
    obtain ⟨b, r, rfl, _, h2⟩ := h
    simp [h2.len]
theorem CvLL.all {L sz : Nat} : ∀ {as bs : List (List AV)}, CvLL L as bs → (∀ e ∈ as, e.length = sz) → ∀ e ∈ bs, e.length = sz
  | [], bs, h, _ => by unfold CvLL at h; subst h; simp
  | a :: as, bs, h, hs => by
    unfold CvLL at h
    obtain ⟨b, r, rfl, h1, h2⟩ := h
    intro e he
    rcases List.mem_cons.1 he with q | q
    · subst q; rw [h1.len]; exact hs a (by simp)
    · exact h2.all (fun x hx => hs x (by simp [hx])) e q
section
variable {S S' : Sit} {L sz : Nat} (hle : S.le S') (hL : S'.rows[L]? = some ⟨0, none, 0, sz⟩)
include hle hL
theorem Cv.rep {a b : AV} {x : Value} (h : Cv L a b) (r : Rep S a x) : Rep S' b x := by
  rcases h with rfl | ⟨rfl, rfl⟩
  · exact Rep.up hle _ _ r
  · simp only [Rep] at r ⊢
    subst r
    exact ⟨⟨_, _, _, rfl⟩, _, hL, Nat.le_refl _, fun _ => .inl rfl⟩
theorem CvL.repPre : ∀ {as bs : List AV} {vs : List Value}, CvL L as bs → RepPre S as vs → RepPre S' bs vs
  | [], bs, vs, h, r => by unfold CvL at h; subst h; simp [RepPre]
  | a :: as, bs, vs, h, r => by
    unfold CvL at h
    obtain ⟨b, q, rfl, h1, h2⟩ := h
    simp only [RepPre] at r ⊢
    obtain ⟨v, w, e, r1, r2⟩ := r
    exact ⟨v, w, e, h1.rep hle hL r1, CvL.repPre h2 r2⟩
theorem CvLL.rep : ∀ {as bs : List (List AV)} {vs : List Value}, CvLL L as bs → RepLL S as vs → RepLL S' bs vs
  | [], bs, vs, h, r => by unfold CvLL at h; subst h; simp [RepLL]
  | a :: as, bs, vs, h, r => by
    unfold CvLL at h
    obtain ⟨b, q, rfl, h1, h2⟩ := h
    simp only [RepLL] at r ⊢
    exact ⟨h1.repPre hle hL r.1, by rw [h1.len]; exact CvLL.rep h2 r.2⟩
end
/-- Nil in some slots and cells, looked at as an empty row. -/
theorem ghost_nil {N : Nat} {t t' : Nat → AV} {h h' : List Row} (E : Tag) (hE : ∃ T, E = .ty T) (sz : Nat) (ht : ∀ k, Cv h.length (t k) (t' k)) (hlen : h'.length = h.length + 1) (hnew : h'[h.length]? = some ⟨E, sz, []⟩)
    (hrow : ∀ l r', l < h.length → h'[l]? = some r' → ∃ r, h[l]? = some r ∧ r'.E = r.E ∧ r'.sz = r.sz ∧ CvLL h.length r.es r'.es) : Ghost N t h t' h' := by
  intro S w a hm hr
  have hl := hm.len
  have hle : S.le { imm := S.imm, rows := S.rows ++ [⟨0, none, 0, sz⟩] } := ⟨fun _ _ e => e, fun l i e => ⟨i, by
    show (S.rows ++ _)[l]? = _
    rw [List.getElem?_append_left (List.getElem?_eq_some_iff.1 e).1]; exact e, Nat.le_refl _, fun _ => rfl⟩⟩
  have hL : ({ imm := S.imm, rows := S.rows ++ [⟨0, none, 0, sz⟩] } : Sit).rows[h.length]? = some ⟨0, none, 0, sz⟩ := by
    show (S.rows ++ _)[h.length]? = _
    rw [← hl, List.getElem?_append_right (Nat.le_refl _), Nat.sub_self]; rfl
  have hcase : ∀ (l : Nat) (i : Info), (S.rows ++ [⟨0, none, 0, sz⟩])[l]? = some i → (l < h.length ∧ S.rows[l]? = some i) ∨ (l = h.length ∧ i = ⟨0, none, 0, sz⟩) := by
    intro l i q
    by_cases hlt : l < h.length
    · left; rw [List.getElem?_append_left (by omega)] at q; exact ⟨hlt, q⟩
    · right
      have h2 := (List.getElem?_eq_some_iff.1 q).1
      simp only [List.length_append, List.length_cons, List.length_nil] at h2
      have e : l = h.length := by omega
      subst e
      refine ⟨rfl, ?_⟩
      rw [← hl, List.getElem?_append_right (Nat.le_refl _), Nat.sub_self] at q
      simpa using q.symm
  refine ⟨{ imm := S.imm, rows := S.rows ++ [⟨0, none, 0, sz⟩] }, ⟨hle, rfl, rfl, rfl, Nat.le_refl _, fun _ _ _ => rfl, ?_, fun b c q => .inl q⟩, ⟨hm.imm, by simp [hl, hlen], ?_, ?_⟩, ⟨hr.1, hr.2.1, fun k hk => (ht k).rep hle hL (hr.2.2 k hk)⟩⟩
  · rintro b ⟨l, i, q1, q2⟩
    rcases hcase l i q1 with ⟨_, q⟩ | ⟨_, q⟩
    · exact .inl ⟨l, i, q, q2⟩
    · subst q; simp at q2
  · intro l i r' q1 q2
    rcases hcase l i q1 with ⟨hlt, q⟩ | ⟨rfl, rfl⟩
    · obtain ⟨r, e1, e2, e3, e4⟩ := hrow l r' hlt q2
      obtain ⟨k1, k2, k3, k4⟩ := hm.rows l i r q e1
      refine ⟨by rw [e4.len]; exact k1, by rw [e3]; exact k2, by rw [e3]; exact e4.all k3, ?_⟩
      cases hb : i.blk with
      | none =>
        rw [hb] at k4
        obtain ⟨k4, k5⟩ := k4
        rw [k4] at e4
        exact ⟨e4, k5⟩
      | some b =>
        rw [hb] at k4
        refine ⟨k4.1, ?_⟩
        have k5 := k4.2
        unfold Stored at k5 ⊢
        rw [e2]
        split at k5
        · rename_i T hT
          obtain ⟨c, j1, j2, j3⟩ := k5
          exact ⟨c, j1, e4.rep hle hL j2, j3⟩
        · rename_i ents hT
          obtain ⟨j1, j2, j3⟩ := k5
          rw [j1] at e4
          exact ⟨e4, by rw [e3]; exact j2, j3⟩
    · rw [hnew] at q2
      obtain rfl := Option.some.inj q2
      exact ⟨rfl, rfl, by simp, rfl, rfl⟩
  · intro l l' i i' b q1 q1' q2 q2'
    rcases hcase l i q1 with ⟨_, q⟩ | ⟨_, rfl⟩
    · rcases hcase l' i' q1' with ⟨_, q'⟩ | ⟨_, rfl⟩
      · exact hm.one l l' i i' b q q' q2 q2'
      · simp at q2'
    · simp at q2
/-- Nothing is looked at anew. -/
theorem ghost_id {N : Nat} {t : Nat → AV} {h : List Row} : Ghost N t h t h := fun S w a hm hr => ⟨S, .refl S w, hm, hr⟩
/-- Nil in a slot. -/
theorem ghost_tmp {N : Nat} {t : Nat → AV} {h : List Row} (d : Nat) (T : TypeId) (sz : Nat) (hd : t d = .val (.slice none 0 0)) : Ghost N t h (upd t d (.own h.length 0)) (h ++ [⟨.ty T, sz, []⟩]) := by
  refine ghost_nil (.ty T) ⟨T, rfl⟩ sz (fun k => ?_) (by simp) (by rw [getA0]; rfl) (fun l r' hl hr => ⟨r', by rwa [List.getElem?_append_left hl] at hr, rfl, rfl, CvLL.refl _ _⟩)
  by_cases e : k = d
  · subst e; right; exact ⟨hd, upd_same _ _ _⟩
  · left; exact upd_ne _ _ _ _ e
/-- Nil in a cell of a box. -/
theorem ghost_cell {N : Nat} {t : Nat → AV} {h0 r : List Row} {E : Tag} {s : Nat} {pre post : List AV} (T : TypeId) (sz : Nat) :
    Ghost N t (h0 ++ ⟨E, s, [pre ++ AV.val (.slice none 0 0) :: post]⟩ :: r) t (h0 ++ ⟨E, s, [pre ++ AV.own (h0.length + 1 + r.length) 0 :: post]⟩ :: (r ++ [⟨.ty T, sz, []⟩])) := by
  have hlen : (h0 ++ ⟨E, s, [pre ++ AV.val (.slice none 0 0) :: post]⟩ :: r).length = h0.length + 1 + r.length := by simp; omega
  refine ghost_nil (.ty T) ⟨T, rfl⟩ sz (fun k => .inl rfl) (by simp; omega) ?_ (fun l r' hl hr => ?_)
  · rw [hlen, List.getElem?_append_right (by omega)]
    have e : h0.length + 1 + r.length - h0.length = r.length + 1 := by omega
    rw [e, List.getElem?_cons_succ, getA0]; rfl
  · rw [hlen] at hl ⊢
    by_cases q : l < h0.length
    · rw [List.getElem?_append_left q] at hr ⊢
      exact ⟨r', hr, rfl, rfl, CvLL.refl _ _⟩
    · rw [List.getElem?_append_right (by omega)] at hr ⊢
      by_cases q0 : l = h0.length
      · subst q0
        rw [Nat.sub_self, List.getElem?_cons_zero] at hr
        obtain rfl := Option.some.inj hr
        refine ⟨⟨E, s, [pre ++ AV.val (.slice none 0 0) :: post]⟩, by rw [Nat.sub_self, List.getElem?_cons_zero], rfl, rfl, ⟨_, [], rfl, ?_, rfl⟩⟩
        have : ∀ pre : List AV, CvL (h0.length + 1 + r.length) (pre ++ AV.val (.slice none 0 0) :: post) (pre ++ AV.own (h0.length + 1 + r.length) 0 :: post) := by
          intro pre
          induction pre with
          | nil => exact ⟨_, _, rfl, .inr ⟨rfl, rfl⟩, CvL.refl _ _⟩
          | cons a as ih => exact ⟨a, _, rfl, .inl rfl, ih⟩
        exact this pre
      · obtain ⟨m, hm⟩ : ∃ m, l - h0.length = m + 1 := ⟨l - h0.length - 1, by omega⟩
        rw [hm, List.getElem?_cons_succ, List.getElem?_append_left (by omega)] at hr
        exact ⟨r', by rw [hm, List.getElem?_cons_succ]; exact hr, rfl, rfl, CvLL.refl _ _⟩

theorem ghost_box {N : Nat} {t : Nat → AV} {h h' : List Row} (h0 r : List Row) (E : Tag) (s : Nat) (pre post : List AV) (T : TypeId) (sz idx : Nat) (e1 : h = h0 ++ ⟨E, s, [pre ++ AV.val (.slice none 0 0) :: post]⟩ :: r) (e2 : h' = h0 ++ ⟨E, s, [pre ++ AV.own idx 0 :: post]⟩ :: (r ++ [⟨.ty T, sz, []⟩])) (e3 : idx = h0.length + 1 + r.length) : Ghost N t h t h' := by
  subst e1 e2 e3; exact ghost_cell T sz

/-! Rows that grow: the row l holds what is done; the elements' own rows lie behind it. -/
structure GrowAt (l : Nat) (H : List Row) (E : Tag) (sz : Nat) (done ds : List (List AV)) : Prop where
  row : H[l]? = some ⟨E, sz, done⟩
  tree : FreshLLB (l + 1) H.length H done ds
theorem GrowAt.lt {l : Nat} {H : List Row} {E : Tag} {sz : Nat} {done ds : List (List AV)} (g : GrowAt l H E sz done ds) : l < H.length := (List.getElem?_eq_some_iff.1 g.row).1
theorem GrowAt.step {l : Nat} {H H1 H2 : List Row} {E : Tag} {sz : Nat} {done ds : List (List AV)} {cs rs : List AV} (g : GrowAt l H E sz done ds) (hf : FreshLB H.length H1.length H1 cs rs) (h1 : H.length ≤ H1.length) (hk : ∀ x, l < x → x < H.length → H1[x]? = H[x]?)
    (h2 : H1.length ≤ H2.length) (hk2 : ∀ x, l < x → x < H1.length → H2[x]? = H1[x]?) (hr : H2[l]? = some ⟨E, sz, done ++ [cs]⟩) : GrowAt l H2 E sz (done ++ [cs]) (ds ++ [rs]) := by
  refine ⟨hr, FreshLLB.snoc (mid := H.length) (g.tree.keep fun x q1 q2 => ?_) ((hf.keep fun x q1 q2 => ?_).widen (Nat.le_refl _) h2) ⟨g.lt, by omega⟩⟩
  · rw [hk2 x (by omega) (by omega), hk x (by omega) q2]
  · exact hk2 x (by have := g.lt; omega) q2
theorem GrowAt.more {l : Nat} {H H' : List Row} {E : Tag} {sz : Nat} {done ds : List (List AV)} (g : GrowAt l H E sz done ds) (h1 : H.length ≤ H'.length) (hk : ∀ x, l ≤ x → x < H.length → H'[x]? = H[x]?) : GrowAt l H' E sz done ds :=
  ⟨by rw [hk l (Nat.le_refl _) g.lt]; exact g.row, (g.tree.keep fun x q1 q2 => hk x (by omega) q2).widen (Nat.le_refl _) h1⟩
theorem GrowAt.done {l n : Nat} {H : List Row} {E : Tag} {sz : Nat} {done ds : List (List AV)} (g : GrowAt l H E sz done ds) (hn : done.length = n) : FreshB l H.length H (.own l n) (.list 0 sz ds) :=
  FreshB.mkown g.tree g.row hn (Nat.le_refl _) (Nat.lt_succ_self _) g.lt
theorem GrowAt.agg {l n lo : Nat} {H : List Row} {E : Tag} {sz : Nat} {done ds : List (List AV)} (g : GrowAt l H E sz done ds) (hn : done.length = n) (hlo : lo ≤ l) (v u : Value) : FreshB lo H.length H (.agg [.val v, .val u, .own l n]) (.agg [.val v, .val u, .list 0 sz ds]) :=
  (FreshB.agg (FreshLB.val _ (FreshLB.val _ (FreshLB.cons (g.done hn) (FreshLB.nil _ _ _) ⟨Nat.le_of_lt g.lt, Nat.le_refl _⟩)))).widen hlo (Nat.le_refl _)
theorem GrowAt.zero {l : Nat} {H : List Row} {E : Tag} {sz : Nat} (h : H[l]? = some ⟨E, sz, []⟩) : GrowAt l H E sz [] [] := ⟨h, .nil _ _ _⟩
/-- Behind the same number of rows lie the same rows. -/
theorem past {p q m t : List Row} {x : Nat} (hp : p.length = q.length) (h1 : q.length ≤ x) (h2 : x < (q ++ m).length) : (p ++ (m ++ t))[x]? = (q ++ m)[x]? := by
  rw [List.length_append] at h2
  rw [List.getElem?_append_right (by omega), List.getElem?_append_right h1, hp, List.getElem?_append_left (by omega)]
theorem FreshLB.head {lo hi : Nat} {H : List Row} {a r : AV} {as rs : List AV} (h : FreshLB lo hi H (a :: as) (r :: rs)) : FreshB lo hi H a r := by
  obtain ⟨n, fs, ⟨d, ds, f, f', e1, rfl, h1, h2⟩, p2, p3⟩ := h
  cases e1
  exact ⟨n, f, h1, (List.nodup_append.1 p2).1, fun l hl => p3 l (List.mem_append_left _ hl)⟩
theorem FreshLB.rest {lo hi : Nat} {H : List Row} {a r : AV} {as rs : List AV} (h : FreshLB lo hi H (a :: as) (r :: rs)) : FreshLB lo hi H as rs := by
  obtain ⟨n, fs, ⟨d, ds, f, f', e1, rfl, h1, h2⟩, p2, p3⟩ := h
  cases e1
  exact ⟨n, f', h2, (List.nodup_append.1 p2).2.1, fun l hl => p3 l (List.mem_append_right _ hl)⟩
theorem sumOf_zero {α : Type} : ∀ xs : List α, sumOf (fun _ => 0) xs = 0
  | [] => rfl
  | x :: xs => by simp only [sumOf]; rw [sumOf_zero xs]
theorem szList_zero {α : Type} (xs : List α) : szList (fun _ => 0) xs = xs.length := by simp only [szList]; rw [sumOf_zero]; rfl
/-! Rows that are known by facts. -/
section
variable {H0 H H' : List Row} {i : Nat} {r : Row}
theorem More.refl (H : List Row) : More H H := ⟨Nat.le_refl _, fun _ _ => rfl⟩
theorem More.set (m : More H0 H) (h : H0.length ≤ i) : More H0 (H.set i r) := ⟨by rw [List.length_set]; exact m.len, fun l hl => by rw [List.getElem?_set_ne (by omega)]; exact m.kept l hl⟩
theorem More.add (m : More H0 H) (l : List Row) : More H0 (H ++ l) := ⟨by rw [List.length_append]; have := m.len; omega, fun x hx => by rw [List.getElem?_append_left (by have := m.len; omega)]; exact m.kept x hx⟩
theorem More.app (H l : List Row) : More H (H ++ l) := (More.refl H).add l
theorem More.tail (m : More H0 H) : ∃ hn, H = H0 ++ hn := by
  refine ⟨H.drop H0.length, ?_⟩
  have e : H.take H0.length = H0 := by
    apply List.ext_getElem?
    intro l
    rw [List.getElem?_take]
    by_cases q : l < H0.length
    · rw [if_pos q]; exact m.kept l q
    · rw [if_neg q, List.getElem?_eq_none (by omega)]
  rw [← List.take_append_drop H0.length H, e]
  simp
theorem set_at (h : H[i]? = some r) (r' : Row) : (H.set i r')[i]? = some r' := by
  rw [List.getElem?_set_self (List.getElem?_eq_some_iff.1 h).1]
end
theorem set_old {H l : List Row} {i j : Nat} {r : Row} (h : H[j]? = some r) (r' : Row) (hij : i ≠ j) : (H.set i r' ++ l)[j]? = some r := get_old (by rw [List.getElem?_set_ne hij]; exact h)
theorem set_new {H l : List Row} {i : Nat} {r : Row} (h : H[i]? = some r) (r' : Row) : (H.set i r' ++ l)[i]? = some r' := get_old (set_at h r')
theorem set_app1 {H l : List Row} {i j : Nat} {r r' : Row} (h : i < H.length) : (H.set j r ++ l).set i r' = (H.set j r).set i r' ++ l := List.set_append_left _ _ (by simpa using h)
theorem set_app2 {H l : List Row} {i j k : Nat} {r r' r2 : Row} (h : i < H.length) : ((H.set k r2).set j r ++ l).set i r' = ((H.set k r2).set j r).set i r' ++ l := List.set_append_left _ _ (by simpa using h)
theorem Ex_ghost_mem {P : Program} {N : Nat} {Q : Post} {k : List Fr} {t : Nat → AV} {h : List Row} {b : LC} (h' : List Row) (hg : ∀ t, Ghost N t h t h') (hb : Ex P N Q b k t h') : Ex P N Q (.ghost b) k t h := Ex_ghost t h' (hg t) hb
theorem FreshB.pair {lo hi : Nat} {H : List Row} {a r : AV} (h : FreshB lo hi H a r) (hl : lo ≤ hi) (v : Value) : FreshB lo hi H (.tup [a, .val v]) (.tup [r, .val v]) :=
  FreshB.tup (FreshLB.cons h (FreshLB.val v (FreshLB.nil hi hi H)) ⟨hl, Nat.le_refl _⟩)
/-- A tree of new rows; the older rows stand. -/
structure Res (h h' : List Row) (av r : AV) : Prop where
  more : More h h'
  tree : FreshB h.length h'.length h' av r
theorem fresh_fn2 {P : Program} {f : FuncId} {fn : Func} {lf : LF} {args : List AV} {r : AV} {Q : AV → Prop} (hmx : P.follows .mixedOrders = true) (hf : P.funcs[f]? = some fn) (hl : LowF P fn lf) (hn : args.length = lf.np)
    (hw : ∀ h : List Row, Ex P lf.N (fnPost lf.res fun av h' => Res h h' av r ∧ Q av) lf.body [] (initT args) h) : FreshCall P f args r Q := by
  intro h K hk
  refine (call_of_fnWp hmx hf hl (fnWp_of hn (hw h))).mono ?_
  rintro a h' ⟨⟨m, h1⟩, h2⟩
  obtain ⟨hn, rfl⟩ := m.tail
  exact hk a hn h1.fresh h2
end Go.AW
