/-
  AW, part 27: trees of rows that a call owns: results that share no memory with anything else, and calls that read such trees.
-/
import Derived.Test.YtleolgjneaekcabGreatDoorAwShelf
namespace Go.AW
open Go.RowKit

def OwnL (R : AV → AV → List Nat → Prop) : List AV → List AV → List Nat → Prop
  | [], ds, fs => ds = [] ∧ fs = []
  | c :: cs, ds, fs => ∃ d ds' f f', ds = d :: ds' ∧ fs = f ++ f' ∧ R c d f ∧ OwnL R cs ds' f'
def OwnLL (R : AV → AV → List Nat → Prop) : List (List AV) → List (List AV) → List Nat → Prop
  | [], ds, fs => ds = [] ∧ fs = []
  | e :: es, ds, fs => ∃ d ds' f f', ds = d :: ds' ∧ fs = f ++ f' ∧ OwnL R e d f ∧ OwnLL R es ds' f'
/-- In the rows H the value a is a tree that comes to r; fs: the rows in it, one by one. -/
def Own (H : List Row) : Nat → AV → AV → List Nat → Prop
  | 0, _, _, _ => False
  | n + 1, a, r, fs =>
    match a with
    | .val v => fs = [] ∧ (r = .val v ∨ (v = .slice none 0 0 ∧ ∃ sz, r = .list 0 sz []))
    | .own l k => ∃ row es f, H[l]? = some row ∧ row.es.length = k ∧ OwnLL (Own H n) row.es es f ∧ r = .list 0 row.sz es ∧ fs = l :: f
    | .sub l k lo hi => ∃ row es f, H[l]? = some row ∧ row.es.length = k ∧ OwnLL (Own H n) row.es es f ∧ r = .list 0 row.sz ((es.take hi).drop lo) ∧ fs = l :: f
    | .agg cs => ∃ ds, OwnL (Own H n) cs ds fs ∧ r = .agg ds
    | .tup cs => ∃ ds, OwnL (Own H n) cs ds fs ∧ r = .tup ds
    | _ => False

theorem OwnL.mono {R R' : AV → AV → List Nat → Prop} : ∀ {cs ds : List AV} {fs : List Nat}, (∀ a r f, (∀ l ∈ f, l ∈ fs) → R a r f → R' a r f) → OwnL R cs ds fs → OwnL R' cs ds fs
  | [], _, _, _, h => h
  | c :: cs, ds, fs, hm, h => by
    obtain ⟨d, ds', f, f', e1, e2, h1, h2⟩ := h
    subst e2
    exact ⟨d, ds', f, f', e1, rfl, hm _ _ _ (fun l hl => List.mem_append_left _ hl) h1, OwnL.mono (fun a r g hg => hm a r g fun l hl => List.mem_append_right _ (hg l hl)) h2⟩
theorem OwnLL.mono {R R' : AV → AV → List Nat → Prop} : ∀ {cs ds : List (List AV)} {fs : List Nat}, (∀ a r f, (∀ l ∈ f, l ∈ fs) → R a r f → R' a r f) → OwnLL R cs ds fs → OwnLL R' cs ds fs
  | [], _, _, _, h => h
  | c :: cs, ds, fs, hm, h => by
    obtain ⟨d, ds', f, f', e1, e2, h1, h2⟩ := h
    subst e2
    exact ⟨d, ds', f, f', e1, rfl, OwnL.mono (fun a r g hg => hm a r g fun l hl => List.mem_append_left _ (hg l hl)) h1, OwnLL.mono (fun a r g hg => hm a r g fun l hl => List.mem_append_right _ (hg l hl)) h2⟩

/-- A tree stands where its rows stand. -/
theorem Own.keep {H H' : List Row} : ∀ {n : Nat} {a r : AV} {fs : List Nat}, (∀ l ∈ fs, H'[l]? = H[l]?) → Own H n a r fs → Own H' n a r fs
  | 0, _, _, _, _, h => h
  | n + 1, a, r, fs, hk, h => by
    cases a with
    | val v => exact h
    | own l k =>
      obtain ⟨row, es, f, h1, h2, h3, h4, h5⟩ := h
      subst h5
      exact ⟨row, es, f, by rw [hk l (by simp)]; exact h1, h2, OwnLL.mono (fun a r g hg ho => Own.keep (fun l hl => hk l (List.mem_cons_of_mem _ (hg l hl))) ho) h3, h4, rfl⟩
    | sub l k lo hi =>
      obtain ⟨row, es, f, h1, h2, h3, h4, h5⟩ := h
      subst h5
      exact ⟨row, es, f, by rw [hk l (by simp)]; exact h1, h2, OwnLL.mono (fun a r g hg ho => Own.keep (fun l hl => hk l (List.mem_cons_of_mem _ (hg l hl))) ho) h3, h4, rfl⟩
    | agg cs =>
      obtain ⟨ds, h1, h2⟩ := h
      exact ⟨ds, OwnL.mono (fun a r g hg ho => Own.keep (fun l hl => hk l (hg l hl)) ho) h1, h2⟩
    | tup cs =>
      obtain ⟨ds, h1, h2⟩ := h
      exact ⟨ds, OwnL.mono (fun a r g hg ho => Own.keep (fun l hl => hk l (hg l hl)) ho) h1, h2⟩
    | _ => exact h.elim
/-- More steps do no harm. -/
theorem Own.more {H : List Row} : ∀ {n : Nat} {a r : AV} {fs : List Nat}, Own H n a r fs → Own H (n + 1) a r fs
  | 0, _, _, _, h => h.elim
  | n + 1, a, r, fs, h => by
    cases a with
    | val v => exact h
    | own l k =>
      obtain ⟨row, es, f, h1, h2, h3, h4, h5⟩ := h
      exact ⟨row, es, f, h1, h2, OwnLL.mono (fun a r g _ ho => Own.more ho) h3, h4, h5⟩
    | sub l k lo hi =>
      obtain ⟨row, es, f, h1, h2, h3, h4, h5⟩ := h
      exact ⟨row, es, f, h1, h2, OwnLL.mono (fun a r g _ ho => Own.more ho) h3, h4, h5⟩
    | agg cs =>
      obtain ⟨ds, h1, h2⟩ := h
      exact ⟨ds, OwnL.mono (fun a r g _ ho => Own.more ho) h1, h2⟩
    | tup cs =>
      obtain ⟨ds, h1, h2⟩ := h
      exact ⟨ds, OwnL.mono (fun a r g _ ho => Own.more ho) h1, h2⟩
    | _ => exact h.elim
theorem Own.up {H : List Row} {n m : Nat} {a r : AV} {fs : List Nat} (hm : n ≤ m) (h : Own H n a r fs) : Own H m a r fs := by
  induction hm with
  | refl => exact h
  | step _ ih => exact ih.more

theorem OwnL.rep {S S' : Sit} {R : AV → AV → List Nat → Prop} (hone : ∀ a x r f, Rep S a x → R a r f → Rep S' r x) : ∀ {as : List AV} {xs : List Value} {rs : List AV} {fs : List Nat}, RepL S as xs → OwnL R as rs fs → RepL S' rs xs
  | [], xs, rs, fs, r, h => by
    obtain ⟨h1, _⟩ := h; subst h1
    simpa [RepL] using r
  | a :: as, xs, rs, fs, r, h => by
    obtain ⟨d, ds', f, f', e1, e2, h1, h2⟩ := h
    subst e1
    simp only [RepL] at r ⊢
    obtain ⟨v, q, e, r2, r3⟩ := r
    exact ⟨v, q, e, hone a v d f r2 h1, OwnL.rep hone r3 h2⟩
theorem OwnL.repPre {S S' : Sit} {R : AV → AV → List Nat → Prop} (hone : ∀ a x r f, Rep S a x → R a r f → Rep S' r x) : ∀ {as : List AV} {xs : List Value} {rs : List AV} {fs : List Nat}, RepPre S as xs → OwnL R as rs fs → RepPre S' rs xs ∧ rs.length = as.length
  | [], xs, rs, fs, r, h => by
    obtain ⟨h1, _⟩ := h; subst h1
    simp [RepPre]
  | a :: as, xs, rs, fs, r, h => by
    obtain ⟨d, ds', f, f', e1, e2, h1, h2⟩ := h
    subst e1
    simp only [RepPre] at r ⊢
    obtain ⟨v, q, e, r2, r3⟩ := r
    have := OwnL.repPre hone r3 h2
    exact ⟨⟨v, q, e, hone a v d f r2 h1, this.1⟩, by simp [this.2]⟩
theorem OwnLL.rep {S S' : Sit} {R : AV → AV → List Nat → Prop} (hone : ∀ a x r f, Rep S a x → R a r f → Rep S' r x) : ∀ {es : List (List AV)} {xs : List Value} {rs : List (List AV)} {fs : List Nat}, RepLL S es xs → OwnLL R es rs fs →
    RepLL S' rs xs ∧ rs.length = es.length ∧ ∀ sz, (∀ e ∈ es, e.length = sz) → ∀ e ∈ rs, e.length = sz
  | [], xs, rs, fs, r, h => by
    obtain ⟨h1, _⟩ := h; subst h1
    simp [RepLL]
  | d :: es, xs, rs, fs, r, h => by
    obtain ⟨d', ds', f, f', e1, e2, h1, h2⟩ := h
    subst e1
    simp only [RepLL] at r ⊢
    have p1 := OwnL.repPre hone r.1 h1
    have p2 := OwnLL.rep hone r.2 h2
    refine ⟨⟨p1.1, by rw [p1.2]; exact p2.1⟩, by simp [p2.2.1], fun sz hsz e he => ?_⟩
    rcases List.mem_cons.1 he with q | q
    · subst q; rw [p1.2]; exact hsz d (by simp)
    · exact p2.2.2 sz (fun e he => hsz e (by simp [he])) e q

theorem OwnLL.len {R : AV → AV → List Nat → Prop} : ∀ {es rs : List (List AV)} {fs : List Nat}, OwnLL R es rs fs → rs.length = es.length
  | [], rs, fs, h => by obtain ⟨h, _⟩ := h; subst h; rfl
  | e :: es, rs, fs, h => by
    obtain ⟨d, ds', f, f', e1, e2, h1, h2⟩ := h
    subst e1
    simp [OwnLL.len h2]
/-- Read as a tree that is written no more. -/
theorem Own.rep {S : Sit} {h : List Row} {w : World} (m : Models S h w) : ∀ (n : Nat) (a : AV) (x : Value) (r : AV) (fs : List Nat), Rep S a x → Own h n a r fs → Rep (S.shut w) r x := by
  intro n
  induction n with
  | zero => intro a x r fs _ e; exact e.elim
  | succ n ih =>
    intro a x r fs hr e
    cases a with
    | val v =>
      obtain ⟨_, e | ⟨e1, sz, e2⟩⟩ := e
      · subst e; simpa [Rep] using hr
      · subst e1 e2
        simp only [Rep] at hr ⊢
        exact .inl ⟨trivial, trivial, _, _, hr⟩
    | agg cs =>
      obtain ⟨ds, e1, e2⟩ := e
      subst e2
      simp only [Rep] at hr ⊢
      obtain ⟨vs, e3, hr⟩ := hr
      exact ⟨vs, e3, OwnL.rep ih hr e1⟩
    | tup cs =>
      obtain ⟨ds, e1, e2⟩ := e
      subst e2
      simp only [Rep] at hr ⊢
      obtain ⟨vs, e3, hr⟩ := hr
      exact ⟨vs, e3, OwnL.rep ih hr e1⟩
    | own l k =>
      obtain ⟨row, es, f, hl, hlen, e1, e2, _⟩ := e
      subst e2
      simp only [Rep] at hr
      obtain ⟨_, i, q1, q2, q3⟩ := hr
      obtain ⟨k1, k2, k3, k4⟩ := m.rows l i row q1 hl
      have hx := q3 (by omega)
      cases hb : i.blk with
      | none =>
        rw [hb] at k4
        simp only [sliceAt, hb] at hx
        rw [k4.1] at e1
        obtain ⟨e1, _⟩ := e1; subst e1
        simp only [Rep]
        rcases hx with hx | ⟨_, p, hx⟩
        · exact .inl ⟨trivial, trivial, _, _, hx⟩
        · exact .inl ⟨trivial, trivial, _, _, hx⟩
      | some b =>
        rw [hb] at k4
        simp only [sliceAt, hb, reduceCtorEq, false_and, or_false] at hx
        by_cases hne : row.es = []
        · rw [hne] at e1 k1
          obtain ⟨e1, _⟩ := e1; subst e1
          simp only [Rep]
          rw [k1] at hx
          exact .inl ⟨trivial, trivial, _, _, hx⟩
        obtain ⟨_, c, _, j2, j3, j4, j5, j6⟩ := k4.2.cells (.inl hne)
        have p := OwnLL.rep ih j3 e1
        simp only [Rep]
        right
        have hown : S.ownsB b = true := ownsB_iff.2 ⟨l, i, q1, hb⟩
        refine ⟨b, 0, i.cap, c, by rw [hx, p.2.1, k1], by rw [p.2.1, ← k1]; exact j5, ?_, p.2.2 _ k3, .inl trivial, ?_, by simpa [Sit.shut, Sit.still] using p.1⟩
        · simp [Sit.shut, hown, j2]
        · rw [p.2.1, j4, ← k1, ← k2]
          simpa using Nat.mul_le_mul_right _ j5
    | sub l k lo hi =>
      obtain ⟨row, es, f, hl, hlen, e1, e2, _⟩ := e
      subst e2
      simp only [Rep] at hr
      obtain ⟨_, i, q1, q2, q3⟩ := hr
      obtain ⟨k1, k2, k3, k4⟩ := m.rows l i row q1 hl
      obtain ⟨g1, g2, g3⟩ := q3 (by omega)
      have hesl : es.length = row.es.length := OwnLL.len e1
      have hlen2 : ((es.take hi).drop lo).length = hi - lo := by simp; omega
      by_cases hz : hi - lo = 0
      · have hnil : (es.take hi).drop lo = [] := List.eq_nil_of_length_eq_zero (by omega)
        rw [hnil]
        simp only [Rep]
        rcases g3 with ⟨_, p, q⟩ | ⟨b, off, _, q, _⟩
        · exact .inl ⟨trivial, trivial, _, _, q⟩
        · rw [hz] at q; exact .inl ⟨trivial, trivial, _, _, q⟩
      · have hne : row.es ≠ [] := by intro q; rw [q] at hlen; simp at hlen; omega
        rcases g3 with ⟨hb, p, q⟩ | ⟨b, off, hb, q, hoff⟩
        · rw [hb] at k4; exact absurd k4.1 hne
        · rw [hb] at k4
          obtain ⟨_, c, _, j2, j3, j4, j5, j6⟩ := k4.2.cells (.inl hne)
          rw [hoff (by omega)] at q
          have p := OwnLL.rep ih j3 e1
          have p3 := p.2.2 _ k3
          have hd := RepLL.drop (RepLL.take (k := hi) p.1) (sz := row.sz) (k := lo) (fun x hx => p3 x (List.mem_of_mem_take hx))
          simp only [Rep]
          right
          have hown : S.ownsB b = true := ownsB_iff.2 ⟨l, i, q1, hb⟩
          refine ⟨b, lo * i.sz, i.cap - lo, c, by rw [q, hlen2], by rw [hlen2]; omega, ?_, fun x hx => p3 x (List.mem_of_mem_take (List.mem_of_mem_drop hx)), .inl trivial, ?_, ?_⟩
          · simp [Sit.shut, hown, j2]
          · rw [hlen2, j4, ← k2, ← Nat.add_mul]
            exact Nat.mul_le_mul_right _ (by omega)
          · rw [k2]; simpa [Sit.shut, Sit.still] using hd
    | _ => exact e.elim

/-- Arguments of a call: read only, or trees. -/
def ArgOwn (H : List Row) (a r : AV) : Prop := (a = r ∧ a.plain = true) ∨ ∃ n fs, Own H n a r fs
def ArgsOwn (H : List Row) : List AV → List AV → Prop
  | [], rs => rs = []
  | a :: as, rs => ∃ r rs', rs = r :: rs' ∧ ArgOwn H a r ∧ ArgsOwn H as rs'
theorem ArgsOwn.rep {S : Sit} {H : List Row} {w : World} (m : Models S H w) : ∀ {as rs : List AV} {xs : List Value}, ArgsOwn H as rs → RepL S as xs → RepL (S.shut w) rs xs
  | [], rs, xs, h, r => by subst h; simpa [RepL] using r
  | a :: as, rs, xs, h, r => by
    obtain ⟨d, ds, e, h1, h2⟩ := h
    subst e
    simp only [RepL] at r ⊢
    obtain ⟨v, q, e, r1, r2⟩ := r
    refine ⟨v, q, e, ?_, ArgsOwn.rep m h2 r2⟩
    rcases h1 with ⟨h1, hp⟩ | ⟨n, fs, h1⟩
    · subst h1; exact Rep.up (shut_le m) _ _ (plain_still hp r1)
    · exact Own.rep m n a v d fs r1 h1

theorem Models.shut {S : Sit} {H : List Row} {w : World} (m : Models S H w) : ∀ b c, (S.shut w).imm b = some c → ∃ E fr, w.heap[b]? = some (.cells c E fr) := by
  intro b c q
  simp only [Sit.shut] at q
  split at q
  · split at q
    · rename_i c' E fr hb
      simp at q; subst q
      exact ⟨E, fr, hb⟩
    · simp at q
  · exact m.imm b c q
theorem Glob.shut {P : Program} {S : Sit} {H : List Row} {w : World} (m : Models S H w) (g : Glob P S) : Glob P (S.shut w) := Glob.up (shut_le m) (show Glob P S.still from g)

/-- A call that reads trees and gives a plain value. -/
theorem own_call {P : Program} {f : FuncId} {as rs : List AV} {H : List Row} {v : Value} (hc : ∀ h, PureCall P f rs h (.val v)) (ha : ArgsOwn H as rs) {K : AV → List Row → Prop} (hk : K (.val v) H) : callSem P f as H K := by
  intro S w vals hm hgl hr
  have hm0 : Models (S.shut w) [] w := ⟨hm.shut, rfl, by simp [Sit.shut], by simp [Sit.shut]⟩
  refine (hc [] (fun r _ => r = .val v) rfl (S.shut w) w vals hm0 (hgl.shut hm) (ha.rep hm hr)).mono ?_
  rintro e w' ⟨v', av, S1, h1, rfl, st, hm1, rv, rfl⟩
  simp only [Rep] at rv
  subst rv
  have b : Below w.heap.size w w' := ⟨st.os, st.tape, st.output, st.size, fun k hk => st.block k hk (by rintro ⟨l, i, q, _⟩; simp [Sit.shut] at q)⟩
  exact ⟨v', .val v', S, H, rfl, Step.below b, hm.below b, by simp [Rep], hk⟩

theorem mapM_rep {S : Sit} {H : List Row} {w : World} (m : Models S H w) {n : Nat} : ∀ {as rs : List AV} {xs : List Value}, as.mapM (resolve H n) = some rs → RepL S as xs → RepL (S.shut w) rs xs :=
  fun h r => mapM_resolve (fun a x r' h1 h2 => resolve_rep m n a x r' h1 h2) r h

/-- A call that reads the call's own rows, and gives a plain value. -/
theorem frozen {P : Program} {f : FuncId} {as rs : List AV} {H : List Row} {v : Value} {n : Nat} (hc : ∀ h, PureCall P f rs h (.val v)) (ha : as.mapM (resolve H n) = some rs) : PureCall P f as H (.val v) := by
  intro K hk S w vals hm hgl hr
  have hm0 : Models (S.shut w) [] w := ⟨hm.shut, rfl, by simp [Sit.shut], by simp [Sit.shut]⟩
  refine (hc [] (fun r _ => r = .val v) rfl (S.shut w) w vals hm0 (hgl.shut hm) (mapM_rep hm ha hr)).mono ?_
  rintro e w' ⟨v', av, S1, h1, rfl, st, hm1, rv, rfl⟩
  simp only [Rep] at rv
  subst rv
  have b : Below w.heap.size w w' := ⟨st.os, st.tape, st.output, st.size, fun k hk => st.block k hk (by rintro ⟨l, i, q, _⟩; simp [Sit.shut] at q)⟩
  exact ⟨v', .val v', S, H, rfl, Step.below b, hm.below b, by simp [Rep], hk⟩
theorem res_flat {h : List Row} {n : Nat} {a : AV} (hf : a.flat = true) : resolve h (n + 1) a = some a := by
  cases a <;> first | rfl | simp [AV.flat] at hf
theorem res_box {H : List Row} {l : Nat} {E : Tag} {sz n : Nat} {cs : List AV} (hl : H[l]? = some ⟨E, sz, [cs]⟩) (hf : cs.all AV.flat = true) (hn : 0 < cs.length) : resolve H (n + 2) (.ptr l 1 0 0) = some (.iptr cs) := by
  have e : resolve H (n + 2) (.ptr l 1 0 0) = match H[l]? with
      | some r => if r.es.length = 1 then (match r.es[0]? with | some e => if 0 < e.length then ((e.drop 0).mapM (resolve H (n + 1))).map .iptr else none | none => none) else none
      | none => none := rfl
  rw [e, hl]
  simp only [List.length_cons, List.length_nil, Nat.zero_add, if_true, List.getElem?_cons_zero, hn, List.drop_zero]
  rw [mapM_flat hf]; rfl
theorem res_fn {H : List Row} {n : Nat} {f : FuncId} {p p' q q' : List AV} (h1 : p.mapM (resolve H n) = some p') (h2 : q.mapM (resolve H n) = some q') : resolve H (n + 1) (.fn f p q) = some (.fn f p' q') := by
  have e : resolve H (n + 1) (.fn f p q) = match p.mapM (resolve H n), q.mapM (resolve H n) with
      | some p', some q' => some (.fn f p' q')
      | _, _ => none := rfl
  rw [e, h1, h2]
theorem mapM_one {H : List Row} {n : Nat} {a r : AV} (h : resolve H n a = some r) : [a].mapM (resolve H n) = some [r] := by
  rw [List.mapM_cons, h]; rfl
theorem mapM_more {H : List Row} {n : Nat} {a r : AV} {as rs : List AV} (h : resolve H n a = some r) (h2 : as.mapM (resolve H n) = some rs) : (a :: as).mapM (resolve H n) = some (r :: rs) := by
  rw [List.mapM_cons, h, h2]; rfl

/-- A result that shares no memory: a tree of new rows. -/
structure Fresh (base : Nat) (H : List Row) (a r : AV) : Prop where
  out : ∃ n fs, Own H n a r fs ∧ fs.Nodup ∧ ∀ l ∈ fs, base ≤ l
def FreshCall (P : Program) (f : FuncId) (args : List AV) (r : AV) (Q : AV → Prop) : Prop :=
  ∀ (h : List Row) (K : AV → List Row → Prop), (∀ av hn, Fresh h.length (h ++ hn) av r → Q av → K av (h ++ hn)) → callSem P f args h K

/-- The rows of a tree: what lies in them is of the tree. -/
theorem OwnL.inner {H : List Row} {R : AV → AV → List Nat → Prop} (hone : ∀ a r f, R a r f → ∀ l ∈ f, ∃ row m es g, H[l]? = some row ∧ OwnLL (Own H m) row.es es g ∧ ∀ x ∈ g, x ∈ f) : ∀ {as rs : List AV} {fs : List Nat}, OwnL R as rs fs → ∀ l ∈ fs, ∃ row m es g, H[l]? = some row ∧ OwnLL (Own H m) row.es es g ∧ ∀ x ∈ g, x ∈ fs
  | [], rs, fs, h, l, hl => by obtain ⟨_, h⟩ := h; subst h; simp at hl
  | a :: as, rs, fs, h, l, hl => by
    obtain ⟨d, ds', f, f', e1, e2, h1, h2⟩ := h
    subst e2
    rcases List.mem_append.1 hl with q | q
    · obtain ⟨row, m, es, g, q1, q2, q3⟩ := hone a d f h1 l q
      exact ⟨row, m, es, g, q1, q2, fun x hx => List.mem_append_left _ (q3 x hx)⟩
    · obtain ⟨row, m, es, g, q1, q2, q3⟩ := OwnL.inner hone h2 l q
      exact ⟨row, m, es, g, q1, q2, fun x hx => List.mem_append_right _ (q3 x hx)⟩
theorem OwnLL.inner {H : List Row} {R : AV → AV → List Nat → Prop} (hone : ∀ a r f, R a r f → ∀ l ∈ f, ∃ row m es g, H[l]? = some row ∧ OwnLL (Own H m) row.es es g ∧ ∀ x ∈ g, x ∈ f) : ∀ {as rs : List (List AV)} {fs : List Nat}, OwnLL R as rs fs → ∀ l ∈ fs, ∃ row m es g, H[l]? = some row ∧ OwnLL (Own H m) row.es es g ∧ ∀ x ∈ g, x ∈ fs
  | [], rs, fs, h, l, hl => by obtain ⟨_, h⟩ := h; subst h; simp at hl
  | a :: as, rs, fs, h, l, hl => by
    obtain ⟨d, ds', f, f', e1, e2, h1, h2⟩ := h
    subst e2
    rcases List.mem_append.1 hl with q | q
    · obtain ⟨row, m, es, g, q1, q2, q3⟩ := OwnL.inner hone h1 l q
      exact ⟨row, m, es, g, q1, q2, fun x hx => List.mem_append_left _ (q3 x hx)⟩
    · obtain ⟨row, m, es, g, q1, q2, q3⟩ := OwnLL.inner hone h2 l q
      exact ⟨row, m, es, g, q1, q2, fun x hx => List.mem_append_right _ (q3 x hx)⟩
theorem Own.inner {H : List Row} : ∀ {n : Nat} {a r : AV} {fs : List Nat}, Own H n a r fs → ∀ l ∈ fs, ∃ row m es g, H[l]? = some row ∧ OwnLL (Own H m) row.es es g ∧ ∀ x ∈ g, x ∈ fs
  | 0, _, _, _, h => h.elim
  | n + 1, a, r, fs, h => by
    intro l hl
    cases a with
    | val v => obtain ⟨h, _⟩ := h; subst h; simp at hl
    | own l' k =>
      obtain ⟨row, es, f, h1, h2, h3, h4, h5⟩ := h
      subst h5
      rcases List.mem_cons.1 hl with q | q
      · subst q; exact ⟨row, n, es, f, h1, h3, fun x hx => List.mem_cons_of_mem _ hx⟩
      · obtain ⟨row', m, es', g, q1, q2, q3⟩ := OwnLL.inner (fun a r f ho => Own.inner ho) h3 l q
        exact ⟨row', m, es', g, q1, q2, fun x hx => List.mem_cons_of_mem _ (q3 x hx)⟩
    | sub l' k lo hi =>
      obtain ⟨row, es, f, h1, h2, h3, h4, h5⟩ := h
      subst h5
      rcases List.mem_cons.1 hl with q | q
      · subst q; exact ⟨row, n, es, f, h1, h3, fun x hx => List.mem_cons_of_mem _ hx⟩
      · obtain ⟨row', m, es', g, q1, q2, q3⟩ := OwnLL.inner (fun a r f ho => Own.inner ho) h3 l q
        exact ⟨row', m, es', g, q1, q2, fun x hx => List.mem_cons_of_mem _ (q3 x hx)⟩
    | agg cs =>
      obtain ⟨ds, h1, h2⟩ := h
      exact OwnL.inner (fun a r f ho => Own.inner ho) h1 l hl
    | tup cs =>
      obtain ⟨ds, h1, h2⟩ := h
      exact OwnL.inner (fun a r f ho => Own.inner ho) h1 l hl
    | _ => exact h.elim

theorem OwnL.trans {S S' : Sit} {R : AV → AV → List Nat → Prop} : ∀ {as rs : List AV} {fs : List Nat} {xs : List Value}, (∀ a x r f, (∀ l ∈ f, l ∈ fs) → R a r f → Rep S a x → Rep S' a x) → OwnL R as rs fs → RepL S as xs → RepL S' as xs
  | [], rs, fs, xs, _, h, r => by simpa [RepL] using r
  | a :: as, rs, fs, xs, hone, h, r => by
    obtain ⟨d, ds', f, f', e1, e2, h1, h2⟩ := h
    subst e2
    simp only [RepL] at r ⊢
    obtain ⟨v, q, e, r2, r3⟩ := r
    exact ⟨v, q, e, hone a v d f (fun l hl => List.mem_append_left _ hl) h1 r2, OwnL.trans (fun a x r g hg => hone a x r g fun l hl => List.mem_append_right _ (hg l hl)) h2 r3⟩
theorem OwnL.transPre {S S' : Sit} {R : AV → AV → List Nat → Prop} : ∀ {as rs : List AV} {fs : List Nat} {xs : List Value}, (∀ a x r f, (∀ l ∈ f, l ∈ fs) → R a r f → Rep S a x → Rep S' a x) → OwnL R as rs fs → RepPre S as xs → RepPre S' as xs
  | [], rs, fs, xs, _, h, r => by simp [RepPre]
  | a :: as, rs, fs, xs, hone, h, r => by
    obtain ⟨d, ds', f, f', e1, e2, h1, h2⟩ := h
    subst e2
    simp only [RepPre] at r ⊢
    obtain ⟨v, q, e, r2, r3⟩ := r
    exact ⟨v, q, e, hone a v d f (fun l hl => List.mem_append_left _ hl) h1 r2, OwnL.transPre (fun a x r g hg => hone a x r g fun l hl => List.mem_append_right _ (hg l hl)) h2 r3⟩
theorem OwnLL.trans {S S' : Sit} {R : AV → AV → List Nat → Prop} : ∀ {as rs : List (List AV)} {fs : List Nat} {xs : List Value}, (∀ a x r f, (∀ l ∈ f, l ∈ fs) → R a r f → Rep S a x → Rep S' a x) → OwnLL R as rs fs → RepLL S as xs → RepLL S' as xs
  | [], rs, fs, xs, _, h, r => by simp [RepLL]
  | a :: as, rs, fs, xs, hone, h, r => by
    obtain ⟨d, ds', f, f', e1, e2, h1, h2⟩ := h
    subst e2
    simp only [RepLL] at r ⊢
    exact ⟨OwnL.transPre (fun a x r g hg => hone a x r g fun l hl => List.mem_append_left _ (hg l hl)) h1 r.1, OwnLL.trans (fun a x r g hg => hone a x r g fun l hl => List.mem_append_right _ (hg l hl)) h2 r.2⟩
theorem Own.trans {S S' : Sit} {H : List Row} : ∀ {n : Nat} {a r : AV} {fs : List Nat} {x : Value}, (∀ l ∈ fs, S'.rows[l]? = S.rows[l]?) → Own H n a r fs → Rep S a x → Rep S' a x
  | 0, _, _, _, _, _, h, _ => h.elim
  | n + 1, a, r, fs, x, hk, h, hr => by
    cases a with
    | val v => simpa [Rep] using hr
    | own l k =>
      obtain ⟨row, es, f, h1, h2, h3, h4, h5⟩ := h
      subst h5
      simp only [Rep] at hr ⊢
      rw [hk l (by simp)]
      exact hr
    | sub l k lo hi =>
      obtain ⟨row, es, f, h1, h2, h3, h4, h5⟩ := h
      subst h5
      simp only [Rep] at hr ⊢
      rw [hk l (by simp)]
      exact hr
    | agg cs =>
      obtain ⟨ds, h1, h2⟩ := h
      simp only [Rep] at hr ⊢
      obtain ⟨vs, e, hr⟩ := hr
      exact ⟨vs, e, OwnL.trans (fun a x r g hg ho hx => Own.trans (fun l hl => hk l (hg l hl)) ho hx) h1 hr⟩
    | tup cs =>
      obtain ⟨ds, h1, h2⟩ := h
      simp only [Rep] at hr ⊢
      obtain ⟨vs, e, hr⟩ := hr
      exact ⟨vs, e, OwnL.trans (fun a x r g hg ho hx => Own.trans (fun l hl => hk l (hg l hl)) ho hx) h1 hr⟩
    | _ => exact h.elim

def blankI : Info := ⟨0, none, 0, 0⟩
def blankR : Row := ⟨0, 0, []⟩
/-- Rows that are not of the tree are given up. -/
def keepR (fs : List Nat) (base : Nat) (hn : List Row) : List Row := hn.mapIdx fun i r => if fs.contains (base + i) then r else blankR
def keepI (fs : List Nat) (base : Nat) (hn : List Info) : List Info := hn.mapIdx fun i r => if fs.contains (base + i) then r else blankI

/-- A CALL THAT READS TREES AND GIVES A NEW TREE. -/
theorem fresh_args {P : Program} {f : FuncId} {as rs : List AV} {H : List Row} {r : AV} {Q : AV → Prop} (hc : FreshCall P f rs r Q) (ha : ∀ (S : Sit) (w : World) (xs : List Value), Models S H w → RepL S as xs → RepL (S.shut w) rs xs) {K : AV → List Row → Prop} (hk : ∀ av hn, Fresh H.length (H ++ hn) av r → Q av → K av (H ++ hn)) : callSem P f as H K := by
  intro S w vals hm hgl hr
  have hlen := hm.len
  let S0 : Sit := { imm := (S.shut w).imm, rows := List.replicate H.length blankI }
  have hle0 : (S.shut w).le S0 := ⟨fun _ _ e => e, by simp [Sit.shut]⟩
  have hm0 : Models S0 (List.replicate H.length blankR) w := by
    refine ⟨hm.shut, by simp [S0], fun l i row q1 q2 => ?_, fun l l' i i' b q1 _ q2 _ => ?_⟩
    · have e1 := List.eq_of_mem_replicate (List.mem_of_getElem? q1)
      have e2 := List.eq_of_mem_replicate (List.mem_of_getElem? q2)
      subst e1 e2
      exact ⟨rfl, rfl, by simp [blankR], rfl, rfl⟩
    · have e1 := List.eq_of_mem_replicate (List.mem_of_getElem? q1)
      subst e1; simp [blankI] at q2
  have hrep : RepL S0 rs vals.toList := RepL.up hle0 _ _ (ha S w _ hm hr)
  refine (hc (List.replicate H.length blankR) (fun av h' => ∃ hn, h' = List.replicate H.length blankR ++ hn ∧ Fresh H.length (List.replicate H.length blankR ++ hn) av r ∧ Q av) (fun av hn hf hq => ⟨hn, rfl, by simpa using hf, hq⟩) S0 w vals hm0 ((hgl.shut hm).up hle0) hrep).mono ?_
  rintro e w' ⟨v, av, S1, h1, rfl, st, hm1, rv, hn, rfl, ⟨n, fs, ho, hnd, hge⟩, hQ⟩
  have hno : ∀ b, ¬ S0.owns b := by
    rintro b ⟨l, i, q1, q2⟩
    have e1 := List.eq_of_mem_replicate (List.mem_of_getElem? q1)
    subst e1; simp [blankI] at q2
  have hb : Below w.heap.size w w' := ⟨st.os, st.tape, st.output, st.size, fun k hk => st.block k hk (hno k)⟩
  have hnew : ∀ b, S1.owns b → w.heap.size ≤ b := fun b hb => (st.ownNew b hb).resolve_left (hno b)
  have hl1 : S1.rows.length = H.length + hn.length := by rw [hm1.len]; simp
  have hm' := hm.below hb
  let S2 : Sit := { imm := S.imm, rows := S.rows ++ keepI fs H.length (S1.rows.drop H.length) }
  have hrows : ∀ l ∈ fs, S2.rows[l]? = S1.rows[l]? := by
    intro l hl
    have hg := hge l hl
    show (S.rows ++ keepI fs H.length (S1.rows.drop H.length))[l]? = _
    rw [List.getElem?_append_right (by omega), hlen]
    simp only [keepI, List.getElem?_mapIdx, List.getElem?_drop]
    have e : H.length + (l - H.length) = l := by omega
    rw [e]
    cases S1.rows[l]? with
    | none => rfl
    | some i => simp [hl]
  have hR : ∀ l ∈ fs, (H ++ keepR fs H.length hn)[l]? = (List.replicate H.length blankR ++ hn)[l]? := by
    intro l hl
    have hg := hge l hl
    rw [List.getElem?_append_right hg, List.getElem?_append_right (by simpa using hg)]
    simp only [keepR, List.getElem?_mapIdx, List.length_replicate]
    have e : H.length + (l - H.length) = l := by omega
    rw [e]
    cases hn[l - H.length]? with
    | none => rfl
    | some i => simp [hl]
  have hS2 : S.le S2 := ⟨fun _ _ e => e, fun l i e => ⟨i, by
    show (S.rows ++ _)[l]? = _
    rw [List.getElem?_append_left (List.getElem?_eq_some_iff.1 e).1]; exact e, Nat.le_refl _, fun _ => rfl⟩⟩
  -- a row of S2 is one of S, or one of the tree's, or blank
  have hcase : ∀ (l : Nat) (i : Info), S2.rows[l]? = some i → (l < H.length ∧ S.rows[l]? = some i) ∨ (H.length ≤ l ∧ l ∈ fs ∧ S1.rows[l]? = some i) ∨ (H.length ≤ l ∧ l ∉ fs ∧ i = blankI) := by
    intro l i q
    by_cases hlt : l < H.length
    · left
      refine ⟨hlt, ?_⟩
      have : (S.rows ++ keepI fs H.length (S1.rows.drop H.length))[l]? = some i := q
      rwa [List.getElem?_append_left (by omega)] at this
    · right
      by_cases hf : l ∈ fs
      · left; exact ⟨by omega, hf, by rw [← hrows l hf]; exact q⟩
      · right
        refine ⟨by omega, hf, ?_⟩
        have : (S.rows ++ keepI fs H.length (S1.rows.drop H.length))[l]? = some i := q
        rw [List.getElem?_append_right (by omega), hlen] at this
        simp only [keepI, List.getElem?_mapIdx, List.getElem?_drop, Option.map_eq_some_iff] at this
        obtain ⟨j, _, e⟩ := this
        have e' : H.length + (l - H.length) = l := by omega
        rw [e'] at e
        simp [hf] at e
        exact e.symm
  have hown2 : ∀ b, S2.owns b → S.owns b ∨ (w.heap.size ≤ b) := by
    rintro b ⟨l, i, q1, q2⟩
    rcases hcase l i q1 with ⟨_, q⟩ | ⟨_, _, q⟩ | ⟨_, _, q⟩
    · exact .inl ⟨l, i, q, q2⟩
    · exact .inr (hnew b ⟨l, i, q, q2⟩)
    · subst q; simp [blankI] at q2
  have hm2 : Models S2 (H ++ keepR fs H.length hn) w' := by
    refine ⟨hm'.imm, by simp only [S2, List.length_append, keepI, keepR, List.length_mapIdx, List.length_drop, hl1, hlen]; omega, fun l i row q1 q2 => ?_, fun l l' i i' b q1 q1' q2 q2' => ?_⟩
    · rcases hcase l i q1 with ⟨hlt, q⟩ | ⟨hge', hf, q⟩ | ⟨hge', hf, q⟩
      · rw [List.getElem?_append_left hlt] at q2
        obtain ⟨k1, k2, k3, k4⟩ := hm'.rows l i row q q2
        refine ⟨k1, k2, k3, ?_⟩
        cases hbk : i.blk with
        | none => rw [hbk] at k4; exact k4
        | some b =>
          rw [hbk] at k4
          exact ⟨k4.1, k4.2.le hS2 rfl⟩
      · rw [hR l hf] at q2
        obtain ⟨k1, k2, k3, k4⟩ := hm1.rows l i row q q2
        refine ⟨k1, k2, k3, ?_⟩
        cases hbk : i.blk with
        | none => rw [hbk] at k4; exact k4
        | some b =>
          rw [hbk] at k4
          have hbig := hnew b ⟨l, i, q, hbk⟩
          refine ⟨?_, ?_⟩
          · cases hi : S.imm b with
            | none => rfl
            | some d => have := hm.immLt hi; omega
          · have k5 := k4.2
            unfold Stored at k5 ⊢
            split at k5
            case h_2 => exact k5
            obtain ⟨c, j2, j3, j4⟩ := k5
            refine ⟨c, j2, ?_, j4⟩
            obtain ⟨row', m, es, g, p1, p2, p3⟩ := ho.inner l hf
            rw [q2] at p1
            obtain rfl := Option.some.inj p1
            exact OwnLL.trans (fun a x r g' hg' hoa hx => Own.trans (fun l' hl' => hrows l' (p3 l' (hg' l' hl'))) hoa hx) p2 j3
      · subst q
        rw [List.getElem?_append_right hge'] at q2
        simp only [keepR, List.getElem?_mapIdx, Option.map_eq_some_iff] at q2
        obtain ⟨j, _, e⟩ := q2
        have e' : H.length + (l - H.length) = l := by omega
        rw [e'] at e
        simp [hf] at e
        subst e
        exact ⟨rfl, rfl, by simp [blankR], rfl, rfl⟩
    · rcases hcase l i q1 with ⟨_, q⟩ | ⟨_, _, q⟩ | ⟨_, _, q⟩ <;> rcases hcase l' i' q1' with ⟨_, q'⟩ | ⟨_, _, q'⟩ | ⟨_, _, q'⟩
      · exact hm.one l l' i i' b q q' q2 q2'
      · have h1 := hm.ownLt ⟨l, i, q, q2⟩
        have h2 := hnew b ⟨l', i', q', q2'⟩
        omega
      · subst q'; simp [blankI] at q2'
      · have h1 := hm.ownLt ⟨l', i', q', q2'⟩
        have h2 := hnew b ⟨l, i, q, q2⟩
        omega
      · exact hm1.one l l' i i' b q q' q2 q2'
      · subst q'; simp [blankI] at q2'
      · subst q; simp [blankI] at q2
      · subst q; simp [blankI] at q2
      · subst q; simp [blankI] at q2
  refine ⟨v, av, S2, H ++ keepR fs H.length hn, rfl, ⟨hS2, hb.os, hb.tape, hb.output, hb.size, fun b hlt _ => hb.block b hlt, hown2, fun b c q => .inl q⟩, hm2, Own.trans hrows ho rv, hk av _ ⟨n, fs, ho.keep hR, hnd, hge⟩ hQ⟩
theorem fresh_own {P : Program} {f : FuncId} {as rs : List AV} {H : List Row} {r : AV} {Q : AV → Prop} (hc : FreshCall P f rs r Q) (ha : ArgsOwn H as rs) {K : AV → List Row → Prop} (hk : ∀ av hn, Fresh H.length (H ++ hn) av r → Q av → K av (H ++ hn)) : callSem P f as H K :=
  fresh_args hc (fun S w xs hm hr => ha.rep hm hr) hk
theorem fresh_res {P : Program} {f : FuncId} {as rs : List AV} {H : List Row} {r : AV} {Q : AV → Prop} {n : Nat} (hc : FreshCall P f rs r Q) (ha : as.mapM (resolve H n) = some rs) {K : AV → List Row → Prop} (hk : ∀ av hn, Fresh H.length (H ++ hn) av r → Q av → K av (H ++ hn)) : callSem P f as H K :=
  fresh_args hc (fun S w xs hm hr => mapM_rep hm ha hr) hk
/-- The way to such a contract: the code is run over whatever rows there are. -/
theorem fresh_fn {P : Program} {f : FuncId} {fn : Func} {lf : LF} {args : List AV} {r : AV} {Q : AV → Prop} (hmx : P.follows .mixedOrders = true) (hf : P.funcs[f]? = some fn) (hl : LowF P fn lf) (hn : args.length = lf.np)
    (hw : ∀ h : List Row, Ex P lf.N (fnPost lf.res fun av h' => ∃ hn, h' = h ++ hn ∧ Fresh h.length (h ++ hn) av r ∧ Q av) lf.body [] (initT args) h) : FreshCall P f args r Q := by
  intro h K hk
  refine (call_of_fnWp hmx hf hl (fnWp_of hn (hw h))).mono ?_
  rintro a h' ⟨hn, rfl, h1, h2⟩
  exact hk a hn h1 h2
end Go.AW
