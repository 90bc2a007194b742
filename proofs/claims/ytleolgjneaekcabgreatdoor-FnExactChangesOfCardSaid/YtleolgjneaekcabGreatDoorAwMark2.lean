/-
  AW, part 33: marking, in memory: a slice of the call's own, element by element.
-/
import Derived.Test.YtleolgjneaekcabGreatDoorAwMark
namespace Go.AW
set_option linter.unusedVariables false
set_option linter.unusedSimpArgs false

theorem Own.lt {H : List Row} {n : Nat} {a r : AV} {fs : List Nat} (h : Own H n a r fs) : ∀ l ∈ fs, l < H.length := fun l hl => by
  obtain ⟨row, m, es, g, h1, _⟩ := h.inner l hl
  exact (List.getElem?_eq_some_iff.1 h1).1
theorem OwnL.len {R : AV → AV → List Nat → Prop} : ∀ {cs ds : List AV} {fs : List Nat}, OwnL R cs ds fs → ds.length = cs.length
  | [], ds, fs, h => by obtain ⟨h, _⟩ := h; subst h; rfl
  | c :: cs, ds, fs, h => by
    obtain ⟨d, ds', f, f', e1, e2, h1, h2⟩ := h
    subst e1
    simp [OwnL.len h2]
theorem OwnL.split {R : AV → AV → List Nat → Prop} : ∀ {cs ds : List AV} {fs : List Nat} (j : Nat) {r : AV}, OwnL R cs ds fs → ds[j]? = some r → ∃ c f1 f2 f3, cs[j]? = some c ∧ fs = f1 ++ (f2 ++ f3) ∧ R c r f2 ∧
    ∀ (R' : AV → AV → List Nat → Prop) (c' r' : AV), (∀ a r g, (∀ l ∈ g, l ∈ f1 ∨ l ∈ f3) → R a r g → R' a r g) → R' c' r' f2 → OwnL R' (cs.set j c') (ds.set j r') fs
  | [], ds, fs, j, r, h, hj => by obtain ⟨h, _⟩ := h; subst h; simp at hj
  | c :: cs, ds, fs, 0, r, h, hj => by
    obtain ⟨d, ds', f, f', rfl, rfl, h1, h2⟩ := h
    simp only [List.getElem?_cons_zero, Option.some.injEq] at hj
    subst hj
    refine ⟨c, [], f, f', rfl, rfl, h1, fun R' c' r' hm hr => ?_⟩
    exact ⟨r', ds', f, f', rfl, rfl, hr, OwnL.mono (fun a r g hg => hm a r g fun l hl => .inr (hg l hl)) h2⟩
  | c :: cs, ds, fs, j + 1, r, h, hj => by
    obtain ⟨d, ds', f, f', rfl, rfl, h1, h2⟩ := h
    simp only [List.getElem?_cons_succ] at hj
    obtain ⟨c0, f1, f2, f3, q1, rfl, q3, q4⟩ := OwnL.split j h2 hj
    refine ⟨c0, f ++ f1, f2, f3, by simpa using q1, by simp, q3, fun R' c' r' hm hr => ?_⟩
    refine ⟨d, ds'.set j r', f, f1 ++ (f2 ++ f3), rfl, rfl, hm _ _ _ (fun l hl => .inl (by simp [hl])) h1, q4 R' c' r' (fun a r g hg => hm a r g fun l hl => ?_) hr⟩
    rcases hg l hl with q | q
    · exact .inl (by simp [q])
    · exact .inr q
theorem OwnLL.split {R : AV → AV → List Nat → Prop} : ∀ {es rs : List (List AV)} {fs : List Nat} (j : Nat) {d : List AV}, OwnLL R es rs fs → rs[j]? = some d → ∃ e f1 f2 f3, es[j]? = some e ∧ fs = f1 ++ (f2 ++ f3) ∧ OwnL R e d f2 ∧
    ∀ (R' : AV → AV → List Nat → Prop) (e' d' : List AV), (∀ a r g, (∀ l ∈ g, l ∈ f1 ∨ l ∈ f3) → R a r g → R' a r g) → OwnL R' e' d' f2 → OwnLL R' (es.set j e') (rs.set j d') fs
  | [], rs, fs, j, d, h, hj => by obtain ⟨h, _⟩ := h; subst h; simp at hj
  | e :: es, rs, fs, 0, d, h, hj => by
    obtain ⟨d0, ds', f, f', rfl, rfl, h1, h2⟩ := h
    simp only [List.getElem?_cons_zero, Option.some.injEq] at hj
    subst hj
    refine ⟨e, [], f, f', rfl, rfl, h1, fun R' c' r' hm hr => ?_⟩
    exact ⟨r', ds', f, f', rfl, rfl, hr, OwnLL.mono (fun a r g hg => hm a r g fun l hl => .inr (hg l hl)) h2⟩
  | e :: es, rs, fs, j + 1, d, h, hj => by
    obtain ⟨d0, ds', f, f', rfl, rfl, h1, h2⟩ := h
    simp only [List.getElem?_cons_succ] at hj
    obtain ⟨c0, f1, f2, f3, q1, rfl, q3, q4⟩ := OwnLL.split j h2 hj
    refine ⟨c0, f ++ f1, f2, f3, by simpa using q1, by simp, q3, fun R' c' r' hm hr => ?_⟩
    refine ⟨d0, ds'.set j r', f, f1 ++ (f2 ++ f3), rfl, rfl, OwnL.mono (fun a r g hg => hm a r g fun l hl => .inl (by simp [hg l hl])) h1, q4 R' c' r' (fun a r g hg => hm a r g fun l hl => ?_) hr⟩
    rcases hg l hl with q | q
    · exact .inl (by simp [q])
    · exact .inr q
theorem Own.of_val {H : List Row} {m : Nat} {c : AV} {v : Value} {f : List Nat} (h : Own H m c (.val v) f) : f = [] ∧ c = .val v := by
  cases m with
  | zero => exact h.elim
  | succ m =>
    cases c with
    | val u =>
      obtain ⟨h1, h2 | ⟨_, sz, h2⟩⟩ := h
      · simp only [AV.val.injEq] at h2; subst h2; exact ⟨h1, rfl⟩
      · cases h2
    | own l k => obtain ⟨row, es, g, _, _, _, h4, _⟩ := h; cases h4
    | sub l k lo hi => obtain ⟨row, es, g, _, _, _, h4, _⟩ := h; cases h4
    | agg cs => obtain ⟨ds, _, h4⟩ := h; cases h4
    | tup cs => obtain ⟨ds, _, h4⟩ := h; cases h4
    | _ => exact h.elim
theorem Own.mk_val (H : List Row) (m : Nat) (v : Value) : Own H (m + 1) (.val v) (.val v) [] := ⟨rfl, .inl rfl⟩
theorem OwnLL.up {H : List Row} {n m : Nat} (hm : n ≤ m) {es rs : List (List AV)} {fs : List Nat} (h : OwnLL (Own H n) es rs fs) : OwnLL (Own H m) es rs fs := OwnLL.mono (fun _ _ _ _ ho => Own.up hm ho) h
theorem OwnL.up {H : List Row} {n m : Nat} (hm : n ≤ m) {es rs : List AV} {fs : List Nat} (h : OwnL (Own H n) es rs fs) : OwnL (Own H m) es rs fs := OwnL.mono (fun _ _ _ _ ho => Own.up hm ho) h

/-- A slice of the call's own whose elements come to rs; since H0 only its own rows have turned. -/
structure MT (H0 : List Row) (l : Nat) (E : Tag) (sz cnt : Nat) (f : List Nat) (rs : List (List AV)) (H : List Row) : Prop where
  out : ∃ m es, H[l]? = some ⟨E, sz, es⟩ ∧ es.length = cnt ∧ OwnLL (Own H (m + 1)) es rs f
  len : H.length = H0.length
  kept : ∀ x, x ∉ l :: f → H[x]? = H0[x]?
theorem set_mid {α : Type} (e : List α) (off : Nat) (a : α) (h : off < e.length) : e.take off ++ [a] ++ e.drop (off + 1) = e.set off a := by
  rw [List.set_eq_take_append_cons_drop, if_pos h]; simp
theorem MT.put {H0 : List Row} {l : Nat} {E : Tag} {sz cnt : Nat} {f : List Nat} {rs : List (List AV)} {H : List Row} {j off : Nat} {d : List AV} {v : Value} (h : MT H0 l E sz cnt f (rs.set j d) H) (hl : l ∉ f) (hj : j < rs.length) (ho : d[off]? = some (.val v)) :
    ∃ es e, H[l]? = some ⟨E, sz, es⟩ ∧ es.length = cnt ∧ es[j]? = some e ∧ off + 1 ≤ e.length ∧
      ∀ w, MT H0 l E sz cnt f (rs.set j (d.set off (.val w))) (H.set l ⟨E, sz, es.set j (e.take off ++ [.val w] ++ e.drop (off + 1))⟩) := by
  obtain ⟨⟨m, es, h1, h2, h3⟩, h4, h5⟩ := h
  have hd : (rs.set j d)[j]? = some d := by rw [List.getElem?_set_self hj]
  obtain ⟨e, f1, f2, f3, q1, q2, q3, q4⟩ := h3.split j hd
  obtain ⟨c, g1, g2, g3, p1, p2, p3, p4⟩ := q3.split off ho
  obtain ⟨rfl, rfl⟩ := p3.of_val
  have hlen : off < e.length := (List.getElem?_eq_some_iff.1 p1).1
  have hlt : l < H.length := (List.getElem?_eq_some_iff.1 h1).1
  refine ⟨es, e, h1, h2, q1, hlen, fun w => ⟨⟨m, _, List.getElem?_set_self hlt, by simpa using h2, ?_⟩, by simpa using h4, fun x hx => ?_⟩⟩
  · rw [set_mid e off _ hlen]
    have hk : ∀ a r g, (∀ x ∈ g, x ∈ f) → Own H (m + 1) a r g → Own (H.set l ⟨E, sz, es.set j (e.set off (.val w))⟩) (m + 1) a r g := fun a r g hg ho => ho.keep fun x hx => by
      rw [List.getElem?_set_ne]; rintro rfl; exact hl (hg _ hx)
    have := q4 (Own (H.set l ⟨E, sz, es.set j (e.set off (.val w))⟩) (m + 1)) (e.set off (.val w)) (d.set off (.val w)) (fun a r g hg => hk a r g fun x hx => by
      rw [q2]; rcases hg x hx with q | q <;> simp [q]) (p4 _ _ _ (fun a r g hg => hk a r g fun x hx => by
      rw [q2, p2]; rcases hg x hx with q | q <;> simp [q]) (Own.mk_val _ _ _))
    rw [List.set_set] at this
    exact this
  · rw [List.getElem?_set_ne (by rintro rfl; simp at hx)]
    exact h5 x hx
theorem MT.sub {H0 : List Row} {l : Nat} {E : Tag} {sz cnt : Nat} {f : List Nat} {rs : List (List AV)} {H : List Row} {j off s2 : Nat} {d : List AV} {es2 : List (List AV)} (h : MT H0 l E sz cnt f (rs.set j d) H) (hl : l ∉ f) (nd : f.Nodup) (hj : j < rs.length) (ho : d[off]? = some (.list 0 s2 es2)) :
    ∃ m es e c g, H[l]? = some ⟨E, sz, es⟩ ∧ es.length = cnt ∧ es[j]? = some e ∧ loadFrom none (e.drop off) = some c ∧ Own H m c (.list 0 s2 es2) g ∧ g.Nodup ∧
      ∀ H' m' es3, H'.length = H.length → (∀ x, x ∉ g → H'[x]? = H[x]?) → Own H' m' c (.list 0 s2 es3) g → MT H0 l E sz cnt f (rs.set j (d.set off (.list 0 s2 es3))) H' := by
  obtain ⟨⟨m, es, h1, h2, h3⟩, h4, h5⟩ := h
  have hd : (rs.set j d)[j]? = some d := by rw [List.getElem?_set_self hj]
  obtain ⟨e, f1, f2, f3, q1, q2, q3, q4⟩ := h3.split j hd
  obtain ⟨c, g1, g2, g3, p1, p2, p3, p4⟩ := q3.split off ho
  obtain ⟨hlen, hc⟩ := List.getElem?_eq_some_iff.1 p1
  obtain ⟨hle, he⟩ := List.getElem?_eq_some_iff.1 q1
  subst p2 q2
  simp only [List.nodup_append, List.mem_append] at nd
  obtain ⟨n1, ⟨⟨m1, ⟨m2, m3, m4⟩, m5⟩, n3, n4⟩, n5⟩ := nd
  refine ⟨m + 1, es, e, c, g2, h1, h2, q1, by rw [List.drop_eq_getElem_cons hlen, hc]; rfl, p3, m2, fun H' m' es3 e1 e2 e3 => ?_⟩
  have hlg : l ∉ g2 := fun q => hl (by simp [q])
  have hkeep : ∀ M, m + 1 ≤ M → ∀ a r g, (∀ x ∈ g, x ∉ g2) → Own H (m + 1) a r g → Own H' M a r g := fun M hM a r g hg ho => Own.up hM (ho.keep fun x hx => e2 x (hg x hx))
  refine ⟨⟨m + m', es, by rw [e2 l hlg]; exact h1, h2, ?_⟩, by rw [e1]; exact h4, fun x hx => ?_⟩
  · have := q4 (Own H' (m + m' + 1)) (e.set off c) (d.set off (.list 0 s2 es3)) (fun a r g hg => hkeep _ (by omega) a r g fun x hx hx2 => by
      rcases hg x hx with q | q
      · exact n5 x q x (.inl (.inr (.inl hx2))) rfl
      · exact n4 x (.inr (.inl hx2)) x q rfl) (p4 _ _ _ (fun a r g hg => hkeep _ (by omega) a r g fun x hx hx2 => by
      rcases hg x hx with q | q
      · exact m5 x q x (.inl hx2) rfl
      · exact m4 x hx2 x q rfl) (Own.up (by omega) e3))
    rw [List.set_set] at this
    have e4 : e.set off c = e := by rw [← hc]; exact List.set_getElem_self hlen
    have e5 : es.set j e = es := by rw [← he]; exact List.set_getElem_self hle
    rw [e4, e5] at this
    exact this
  · rw [e2 x (fun q => hx (by simp [q]))]
    exact h5 x hx

/-- What is known of a part of a row that is handed in. -/
theorem callSem_sub {P : Program} {F l n lo hi : Nat} {as : List AV} {H : List Row} {K : AV → List Row → Prop} {row : Row} (hl : H[l]? = some row) (hn : row.es.length = n) (hc : lo ≤ hi → hi ≤ n → callSem P F (.sub l n lo hi :: as) H K) : callSem P F (.sub l n lo hi :: as) H K := by
  intro S w vals hm hgl hr
  have hr' := hr
  simp only [RepL] at hr'
  obtain ⟨v, r, e, h1, h2⟩ := hr'
  simp only [Rep] at h1
  obtain ⟨_, i, q1, q2, q3⟩ := h1
  have q4 := (hm.rows l i row q1 hl).1
  obtain ⟨q5, q6, _⟩ := q3 (by omega)
  exact hc q5 q6 S w vals hm hgl hr
theorem callSem_own {P : Program} {F l n : Nat} {as : List AV} {H : List Row} {K : AV → List Row → Prop} (hc : callSem P F (.sub l n 0 n :: as) H K) : callSem P F (.own l n :: as) H K := by
  intro S w vals hm hgl hr
  refine hc S w vals hm hgl ?_
  simp only [RepL] at hr ⊢
  obtain ⟨v, r, e, h1, h2⟩ := hr
  refine ⟨v, r, e, ?_, h2⟩
  simp only [Rep] at h1 ⊢
  obtain ⟨q0, i, q1, q2, q3⟩ := h1
  refine ⟨q0, i, q1, q2, fun q => ⟨Nat.zero_le _, Nat.le_refl _, ?_⟩⟩
  rcases q3 q with q4 | q4
  · unfold sliceAt at q4
    split at q4
    · rename_i b hb
      right
      exact ⟨b, 0, hb, by rw [q4, Nat.sub_zero, Nat.sub_zero, q], fun _ => by simp⟩
    · rename_i hb
      left
      exact ⟨hb, none, q4⟩
  · exact .inl q4

/-- The contract of a function that marks a slice. -/
def MarkC (P : Program) (F : FuncId) (mt : Int → ByteArray) (fs : List Sch) : Prop :=
  ∀ (m : Nat) (a : AV) (es : List (List AV)) (f : List Nat) (H : List Row) (k : Int) (K : AV → List Row → Prop), Own H m a (.list 0 fs.length es) f → f.Nodup → (∀ e ∈ es, shEl fs e) → 0 ≤ k → k + cntAcc (cntEl fs) es ≤ 4611686018427387904 →
    (∀ H' m', H'.length = H.length → (∀ x, x ∉ f → H'[x]? = H[x]?) → Own H' m' a (.list 0 fs.length (mapAcc (mkEl mt fs) es k).1) f → K (.val (.int .i64 (mapAcc (mkEl mt fs) es k).2)) H') →
    callSem P F [a, .val (.int .i64 k)] H K
theorem MarkC.of {P : Program} {F : FuncId} {mt : Int → ByteArray} {fs : List Sch}
    (hnil : ∀ (H : List Row) (k : Int) (K : AV → List Row → Prop), K (.val (.int .i64 k)) H → callSem P F [.val (.slice none 0 0), .val (.int .i64 k)] H K)
    (hsub : ∀ (l cnt lo hi : Nat) (E : Tag) (rs : List (List AV)) (f : List Nat) (H : List Row) (k : Int) (K : AV → List Row → Prop), MT H l E fs.length cnt f rs H → l ∉ f → f.Nodup → rs.length = cnt → lo ≤ hi → hi ≤ cnt → (∀ e ∈ (rs.take hi).drop lo, shEl fs e) → 0 ≤ k → k + cntAcc (cntEl fs) ((rs.take hi).drop lo) ≤ 4611686018427387904 →
      (∀ H' rs', MT H l E fs.length cnt f rs' H' → (rs'.take hi).drop lo = (mapAcc (mkEl mt fs) ((rs.take hi).drop lo) k).1 → K (.val (.int .i64 (mapAcc (mkEl mt fs) ((rs.take hi).drop lo) k).2)) H') → callSem P F [.sub l cnt lo hi, .val (.int .i64 k)] H K) : MarkC P F mt fs := by
  intro m a es f H k K ho nd hsh hk hb hK
  cases m with
  | zero => exact ho.elim
  | succ m =>
    have part : ∀ (l cnt lo hi : Nat) (row : Row) (es0 : List (List AV)) (f0 : List Nat), H[l]? = some row → row.es.length = cnt → OwnLL (Own H m) row.es es0 f0 → row.sz = fs.length → es = (es0.take hi).drop lo → f = l :: f0 →
        (∀ H' m' row' es', H'.length = H.length → (∀ x, x ∉ f → H'[x]? = H[x]?) → H'[l]? = some row' → row'.es.length = cnt → row'.sz = fs.length → OwnLL (Own H' m') row'.es es' f0 → (es'.take hi).drop lo = (mapAcc (mkEl mt fs) es k).1 → K (.val (.int .i64 (mapAcc (mkEl mt fs) es k).2)) H') →
        callSem P F [.sub l cnt lo hi, .val (.int .i64 k)] H K := by
      rintro l cnt lo hi ⟨E, sz, res⟩ es0 f0 h1 h2 h3 h4 rfl rfl hfin
      simp only at h2 h3 h4
      subst h4
      rw [List.nodup_cons] at nd
      refine callSem_sub h1 h2 fun hlo hhi => ?_
      refine hsub l cnt lo hi E es0 f0 H k K ⟨⟨m, res, h1, h2, h3.up (by omega)⟩, rfl, fun _ _ => rfl⟩ nd.1 nd.2 (by rw [h3.len, h2]) hlo hhi hsh hk hb ?_
      rintro H' rs' ⟨⟨m', res', g1, g2, g3⟩, g4, g5⟩ e
      exact hfin H' _ ⟨E, fs.length, res'⟩ rs' g4 g5 g1 g2 rfl g3 e
    cases a with
    | val v =>
      obtain ⟨rfl, e | ⟨rfl, sz, e⟩⟩ := ho
      · cases e
      · simp only [AV.list.injEq] at e
        obtain ⟨_, rfl, rfl⟩ := e
        refine hnil H k K (hK H 1 rfl (fun _ _ => rfl) ⟨rfl, .inr ⟨rfl, _, rfl⟩⟩)
    | own l cnt =>
      obtain ⟨row, es0, f0, h1, h2, h3, h4, h5⟩ := ho
      simp only [AV.list.injEq, true_and] at h4
      obtain ⟨h4, rfl⟩ := h4
      have hlen : es.length = cnt := by rw [h3.len, h2]
      refine callSem_own (part l cnt 0 cnt row es f0 h1 h2 h3 h4.symm (by rw [List.drop_zero, List.take_of_length_le (by omega)]) h5 ?_)
      rintro H' m' row' es' e1 e2 e3 e4 e5 e6 e7
      have hlen' : es'.length = cnt := by rw [e6.len, e4]
      rw [List.drop_zero, List.take_of_length_le (by omega)] at e7
      subst e7
      exact hK H' (m' + 1) e1 e2 ⟨row', _, f0, e3, e4, e6, by rw [e5], h5⟩
    | sub l cnt lo hi =>
      obtain ⟨row, es0, f0, h1, h2, h3, h4, h5⟩ := ho
      simp only [AV.list.injEq, true_and] at h4
      obtain ⟨h4, rfl⟩ := h4
      refine part l cnt lo hi row es0 f0 h1 h2 h3 h4.symm rfl h5 ?_
      rintro H' m' row' es' e1 e2 e3 e4 e5 e6 e7
      exact hK H' (m' + 1) e1 e2 ⟨row', es', f0, e3, e4, e6, by rw [e5, e7], h5⟩
    | agg cs => obtain ⟨ds, _, e⟩ := ho; cases e
    | tup cs => obtain ⟨ds, _, e⟩ := ho; cases e
    | _ => exact ho.elim

/-! The rounds. -/
theorem acc_step {g : List AV → Int → List AV × Int} {seg : List (List AV)} {k : Int} {i : Nat} (h : i < seg.length) : mapAcc g (seg.take (i + 1)) k = ((mapAcc g (seg.take i) k).1 ++ [(g seg[i] (mapAcc g (seg.take i) k).2).1], (g seg[i] (mapAcc g (seg.take i) k).2).2) := by
  rw [List.take_add_one, List.getElem?_eq_getElem h, Option.toList_some, mapAcc_snoc]
theorem acc_all {g : List AV → Int → List AV × Int} {seg : List (List AV)} {k : Int} {i : Nat} (h : seg.length ≤ i) : mapAcc g (seg.take i) k = mapAcc g seg k := by rw [List.take_of_length_le h]
theorem cnt_take {c : List AV → Nat} : ∀ {seg : List (List AV)} {i : Nat} (h : i < seg.length), cntAcc c (seg.take i) + c seg[i] ≤ cntAcc c seg
  | x :: xs, 0, h => by simp [cntAcc]
  | x :: xs, i + 1, h => by
    have := cnt_take (c := c) (seg := xs) (i := i) (by simpa using h)
    simp only [List.take_succ_cons, cntAcc, List.getElem_cons_succ]; omega
theorem seg_at {rs seg : List (List AV)} {A : List (List AV)} {lo hi i : Nat} (h : (rs.take hi).drop lo = A ++ seg.drop i) (hA : A.length = i) (hi' : i < seg.length) : lo + i < rs.length ∧ rs[lo + i]? = some seg[i] ∧ lo + i < hi := by
  have h1 : ((rs.take hi).drop lo)[i]? = some seg[i] := by
    rw [h, List.getElem?_append_right (by omega), hA, Nat.sub_self, List.getElem?_drop, Nat.add_zero, List.getElem?_eq_getElem hi']
  rw [List.getElem?_drop, List.getElem?_take] at h1
  split at h1
  · rename_i q
    exact ⟨(List.getElem?_eq_some_iff.1 h1).1, h1, q⟩
  · cases h1
theorem seg_step {rs seg : List (List AV)} {A : List (List AV)} {lo hi i : Nat} {d : List AV} (h : (rs.take hi).drop lo = A ++ seg.drop i) (hA : A.length = i) (hi' : i < seg.length) : ((rs.set (lo + i) d).take hi).drop lo = (A ++ [d]) ++ seg.drop (i + 1) := by
  obtain ⟨h1, h2, h3⟩ := seg_at h hA hi'
  rw [List.take_set, List.drop_set, if_neg (by omega), h, Nat.add_sub_cancel_left, List.set_append_right _ _ (by omega), hA, Nat.sub_self, List.drop_eq_getElem_cons hi', List.set_cons_zero, List.append_assoc]
  rfl

/-! An element, cell by cell. -/
theorem OwnL.inv_nil {R : AV → AV → List Nat → Prop} {cs : List AV} {f : List Nat} (h : OwnL R cs [] f) : cs = [] ∧ f = [] := by
  cases cs with
  | nil => exact ⟨rfl, h.2⟩
  | cons c cs => obtain ⟨d, ds', g, g', e, _⟩ := h; cases e
theorem OwnL.inv_cons {R : AV → AV → List Nat → Prop} {cs ds : List AV} {d : AV} {f : List Nat} (h : OwnL R cs (d :: ds) f) : ∃ c cs' g g', cs = c :: cs' ∧ f = g ++ g' ∧ R c d g ∧ OwnL R cs' ds g' := by
  cases cs with
  | nil => obtain ⟨e, _⟩ := h; cases e
  | cons c cs =>
    obtain ⟨d', ds', g, g', e, e2, h1, h2⟩ := h
    simp only [List.cons.injEq] at e
    obtain ⟨rfl, rfl⟩ := e
    exact ⟨c, cs, g, g', rfl, e2, h1, h2⟩
theorem OwnL.inv_val {H : List Row} {m : Nat} {cs ds : List AV} {v : Value} {f : List Nat} (h : OwnL (Own H m) cs (.val v :: ds) f) : ∃ cs', cs = .val v :: cs' ∧ OwnL (Own H m) cs' ds f := by
  obtain ⟨c, cs', g, g', rfl, rfl, h1, h2⟩ := h.inv_cons
  obtain ⟨rfl, rfl⟩ := h1.of_val
  exact ⟨cs', rfl, h2⟩
theorem OwnL.mk_nil (R : AV → AV → List Nat → Prop) : OwnL R [] [] [] := ⟨rfl, rfl⟩
theorem OwnL.mk_val {H : List Row} {m : Nat} {cs ds : List AV} {f : List Nat} (v : Value) (h : OwnL (Own H (m + 1)) cs ds f) : OwnL (Own H (m + 1)) (.val v :: cs) (.val v :: ds) f := ⟨_, _, [], f, rfl, rfl, Own.mk_val _ _ _, h⟩
theorem OwnL.mk_list {H : List Row} {m n : Nat} {c r : AV} {cs ds : List AV} {f g : List Nat} (h1 : Own H m c r g) (h : OwnL (Own H (n + 1)) cs ds f) : OwnL (Own H (m + n + 1)) (c :: cs) (r :: ds) (g ++ f) := ⟨_, _, g, f, rfl, rfl, Own.up (by omega) h1, OwnL.up (by omega) h⟩
theorem Own.cell_list {H : List Row} {m : Nat} {c : AV} {tk sz : Nat} {es : List (List AV)} {g : List Nat} (h : Own H m c (.list tk sz es) g) : c.cell = true := by
  cases m with
  | zero => exact h.elim
  | succ m =>
    cases c with
    | val v => obtain ⟨_, e | ⟨rfl, _⟩⟩ := h
               · cases e
               · rfl
    | own l k => rfl
    | sub l k lo hi => rfl
    | agg cs => obtain ⟨_, _, e⟩ := h; cases e
    | tup cs => obtain ⟨_, _, e⟩ := h; cases e
    | _ => exact h.elim
theorem MT.elem {H0 : List Row} {l : Nat} {E : Tag} {sz cnt : Nat} {f : List Nat} {rs : List (List AV)} {H : List Row} {j : Nat} {d : List AV} (h : MT H0 l E sz cnt f rs H) (hl : l ∉ f) (nd : f.Nodup) (hd : rs[j]? = some d) :
    ∃ m es e f2, H[l]? = some ⟨E, sz, es⟩ ∧ es.length = cnt ∧ es[j]? = some e ∧ OwnL (Own H (m + 1)) e d f2 ∧ f2.Nodup ∧ l ∉ f2 ∧
      ∀ H' e' d', H'.length = H.length → H'[l]? = some ⟨E, sz, es.set j e'⟩ → (∀ x, x ∉ l :: f2 → H'[x]? = H[x]?) → (∃ m', OwnL (Own H' m') e' d' f2) → MT H0 l E sz cnt f (rs.set j d') H' := by
  obtain ⟨⟨m, es, h1, h2, h3⟩, h4, h5⟩ := h
  obtain ⟨e, f1, f2, f3, q1, q2, q3, q4⟩ := h3.split j hd
  subst q2
  simp only [List.nodup_append, List.mem_append] at nd
  obtain ⟨n1, ⟨n2, n3, n4⟩, n5⟩ := nd
  refine ⟨m, es, e, f2, h1, h2, q1, q3, n2, fun q => hl (by simp [q]), fun H' e' d' e1 e2 e3 ⟨m', e4⟩ => ⟨⟨m + m', _, e2, by simpa using h2, ?_⟩, by rw [e1, h4], fun x hx => ?_⟩⟩
  · refine q4 (Own H' (m + m' + 1)) e' d' (fun a r g hg ho => Own.up (by omega) (ho.keep fun x hx => e3 x ?_)) (OwnL.up (by omega) e4)
    rw [List.mem_cons]
    rintro (rfl | q)
    · exact hl (by rcases hg _ hx with q | q <;> simp [q])
    · rcases hg x hx with q' | q'
      · exact n5 x q' x (.inl q) rfl
      · exact n4 x q x q' rfl
  · rw [e3 x (fun q => hx (by rcases List.mem_cons.1 q with q | q <;> simp [q]))]
    exact h5 x hx
theorem set_same {α : Type} {l : List α} {j : Nat} {d : α} (h : l[j]? = some d) : l.set j d = l := by
  obtain ⟨hlt, e⟩ := List.getElem?_eq_some_iff.1 h
  rw [← e]; exact List.set_getElem_self hlt

/-! A struct that is handed over: its slices alone are marked. -/
section
variable (mt : Int → ByteArray)
def mkTop : List Sch → List AV → Int → List AV × Int
  | .list fs :: ss, c :: cs, k => ((mkCell mt (.list fs) c k).1 :: (mkTop ss cs (mkCell mt (.list fs) c k).2).1, (mkTop ss cs (mkCell mt (.list fs) c k).2).2)
  | _ :: ss, c :: cs, k => (c :: (mkTop ss cs k).1, (mkTop ss cs k).2)
  | _, cs, k => (cs, k)
def hdTop : List Sch → List AV → Int → Int
  | .list fs :: ss, c :: cs, k => if hdCell mt (.list fs) c k < 0 then -1 else hdTop ss cs (hdCell mt (.list fs) c k)
  | _ :: ss, _ :: cs, k => hdTop ss cs k
  | _, _, k => k
end
def cntTop : List Sch → List AV → Nat
  | .list fs :: ss, c :: cs => cntCell (.list fs) c + cntTop ss cs
  | _ :: ss, _ :: cs => cntTop ss cs
  | _, _ => 0
variable {mt : Int → ByteArray}
theorem mkTop_cnt : ∀ (fs : List Sch) (cs : List AV) (k : Int), (mkTop mt fs cs k).2 = k + cntTop fs cs
  | [], cs, k => by simp [mkTop, cntTop]
  | .list fs :: ss, [], k => by simp [mkTop, cntTop]
  | .int :: ss, [], k => by simp [mkTop, cntTop]
  | .str :: ss, [], k => by simp [mkTop, cntTop]
  | .bool :: ss, [], k => by simp [mkTop, cntTop]
  | .list fs :: ss, c :: cs, k => by simp only [mkTop, cntTop]; rw [mkTop_cnt ss, mkCell_cnt]; omega
  | .int :: ss, c :: cs, k => by simp only [mkTop, cntTop]; exact mkTop_cnt ss cs k
  | .str :: ss, c :: cs, k => by simp only [mkTop, cntTop]; exact mkTop_cnt ss cs k
  | .bool :: ss, c :: cs, k => by simp only [mkTop, cntTop]; exact mkTop_cnt ss cs k
theorem hdTop_mk : ∀ (fs : List Sch) (cs : List AV) (k : Int), shEl fs cs → 0 ≤ k → hdTop mt fs (mkTop mt fs cs k).1 k = (mkTop mt fs cs k).2
  | [], cs, k, _, hk => by simp [mkTop, hdTop]
  | .list fs :: ss, cs, k, h, hk => by
    unfold shEl at h
    obtain ⟨c, r, rfl, h1, h2⟩ := h
    simp only [mkTop, hdTop]
    rw [hdCell_mk _ c k h1 hk, mkCell_cnt, if_neg (by omega)]
    exact hdTop_mk ss r _ h2 (by omega)
  | .int :: ss, cs, k, h, hk => by
    unfold shEl at h
    obtain ⟨c, r, rfl, h1, h2⟩ := h
    simp only [mkTop, hdTop]
    exact hdTop_mk ss r _ h2 hk
  | .str :: ss, cs, k, h, hk => by
    unfold shEl at h
    obtain ⟨c, r, rfl, h1, h2⟩ := h
    simp only [mkTop, hdTop]
    exact hdTop_mk ss r _ h2 hk
  | .bool :: ss, cs, k, h, hk => by
    unfold shEl at h
    obtain ⟨c, r, rfl, h1, h2⟩ := h
    simp only [mkTop, hdTop]
    exact hdTop_mk ss r _ h2 hk
theorem mkTop_sh : ∀ (fs : List Sch) (cs : List AV) (k : Int), shEl fs cs → shEl fs (mkTop mt fs cs k).1
  | [], cs, k, h => by unfold shEl at h; simp [mkTop, shEl, h]
  | .list fs :: ss, cs, k, h => by
    unfold shEl at h
    obtain ⟨c, r, rfl, h1, h2⟩ := h
    simp only [mkTop]
    unfold shEl
    exact ⟨_, _, rfl, mkCell_sh _ c k h1, mkTop_sh ss r _ h2⟩
  | .int :: ss, cs, k, h => by
    unfold shEl at h
    obtain ⟨c, r, rfl, h1, h2⟩ := h
    simp only [mkTop]
    unfold shEl
    exact ⟨_, _, rfl, h1, mkTop_sh ss r _ h2⟩
  | .str :: ss, cs, k, h => by
    unfold shEl at h
    obtain ⟨c, r, rfl, h1, h2⟩ := h
    simp only [mkTop]
    unfold shEl
    exact ⟨_, _, rfl, h1, mkTop_sh ss r _ h2⟩
  | .bool :: ss, cs, k, h => by
    unfold shEl at h
    obtain ⟨c, r, rfl, h1, h2⟩ := h
    simp only [mkTop]
    unfold shEl
    exact ⟨_, _, rfl, h1, mkTop_sh ss r _ h2⟩
def MarkA (P : Program) (F : FuncId) (mt : Int → ByteArray) (fs : List Sch) : Prop :=
  ∀ (m : Nat) (cs ds : List AV) (f : List Nat) (H : List Row) (k : Int) (K : AV → List Row → Prop), OwnL (Own H m) cs ds f → f.Nodup → shEl fs ds → 0 ≤ k → k + cntTop fs ds ≤ 4611686018427387904 →
    (∀ H', H.length ≤ H'.length → (∀ x, x < H.length → x ∉ f → H'[x]? = H[x]?) → (∃ m', OwnL (Own H' m') cs (mkTop mt fs ds k).1 f) → K (.val (.int .i64 (mkTop mt fs ds k).2)) H') →
    callSem P F [.agg cs, .val (.int .i64 k)] H K

/-! Looking, cell by cell. -/
theorem hdEl_int {ss : List Sch} {cs : List AV} {n k : Int} (h : n = k) (hk : 0 ≤ k) : hdEl mt (.int :: ss) (.val (.int .i64 n) :: cs) k = hdEl mt ss cs (k + 1) := by
  have e : hdCell mt .int (.val (.int .i64 n)) k = k + 1 := by simp only [hdCell]; rw [if_pos h]
  simp only [hdEl]; rw [e, if_neg (by omega)]
theorem hdEl_int' {ss : List Sch} {cs : List AV} {n k : Int} (h : ¬ n = k) : hdEl mt (.int :: ss) (.val (.int .i64 n) :: cs) k = -1 := by
  have e : hdCell mt .int (.val (.int .i64 n)) k = -1 := by simp only [hdCell]; rw [if_neg h]
  simp only [hdEl]; rw [e, if_pos (by omega)]
theorem hdEl_str {ss : List Sch} {cs : List AV} {s : ByteArray} {k : Int} (h : s = mt k) (hk : 0 ≤ k) : hdEl mt (.str :: ss) (.val (.string s) :: cs) k = hdEl mt ss cs (k + 1) := by
  have e : hdCell mt .str (.val (.string s)) k = k + 1 := by simp only [hdCell]; rw [if_pos h]
  simp only [hdEl]; rw [e, if_neg (by omega)]
theorem hdEl_str' {ss : List Sch} {cs : List AV} {s : ByteArray} {k : Int} (h : ¬ s = mt k) : hdEl mt (.str :: ss) (.val (.string s) :: cs) k = -1 := by
  have e : hdCell mt .str (.val (.string s)) k = -1 := by simp only [hdCell]; rw [if_neg h]
  simp only [hdEl]; rw [e, if_pos (by omega)]
theorem hdEl_bool {ss : List Sch} {cs : List AV} {b : Bool} {k : Int} (h : b = decide (k % 3 = 0)) (hk : 0 ≤ k) : hdEl mt (.bool :: ss) (.val (.bool b) :: cs) k = hdEl mt ss cs (k + 1) := by
  have e : hdCell mt .bool (.val (.bool b)) k = k + 1 := by simp only [hdCell]; rw [if_pos h]
  simp only [hdEl]; rw [e, if_neg (by omega)]
theorem hdEl_bool' {ss : List Sch} {cs : List AV} {b : Bool} {k : Int} (h : ¬ b = decide (k % 3 = 0)) : hdEl mt (.bool :: ss) (.val (.bool b) :: cs) k = -1 := by
  have e : hdCell mt .bool (.val (.bool b)) k = -1 := by simp only [hdCell]; rw [if_neg h]
  simp only [hdEl]; rw [e, if_pos (by omega)]
theorem hdEl_list {ss fs : List Sch} {cs : List AV} {tk sz : Nat} {es : List (List AV)} {k : Int} (h : ¬ hdAcc (hdEl mt fs) es k < 0) : hdEl mt (.list fs :: ss) (.list tk sz es :: cs) k = hdEl mt ss cs (hdAcc (hdEl mt fs) es k) := by
  have e : hdCell mt (.list fs) (.list tk sz es) k = hdAcc (hdEl mt fs) es k := by simp only [hdCell]
  simp only [hdEl]; rw [e, if_neg h]
theorem hdEl_list' {ss fs : List Sch} {cs : List AV} {tk sz : Nat} {es : List (List AV)} {k : Int} (h : hdAcc (hdEl mt fs) es k < 0) : hdEl mt (.list fs :: ss) (.list tk sz es :: cs) k = -1 := by
  have e : hdCell mt (.list fs) (.list tk sz es) k = hdAcc (hdEl mt fs) es k := by simp only [hdCell]
  simp only [hdEl]; rw [e, if_pos h]
theorem hdEl_nil {cs : List AV} {k : Int} : hdEl mt [] cs k = k := by simp [hdEl]
theorem hdAcc_neg {g : List AV → Int → Int} {e : List AV} {es : List (List AV)} {k : Int} (h : g e k = -1) : hdAcc g (e :: es) k = -1 := by
  simp only [hdAcc]; rw [if_pos (by omega)]
theorem hdAcc_pos {g : List AV → Int → Int} {e : List AV} {es : List (List AV)} {k z : Int} (h : g e k = z) (hz : 0 ≤ z) : hdAcc g (e :: es) k = hdAcc g es z := by
  simp only [hdAcc]; rw [h, if_neg (by omega)]
theorem hdAcc_at {g : List AV → Int → Int} {es : List (List AV)} {k : Int} {i : Nat} (h : i < es.length) : hdAcc g (es.drop i) k = hdAcc g (es[i] :: es.drop (i + 1)) k := by rw [List.drop_eq_getElem_cons h]
theorem cnt_at {c : List AV → Nat} {es : List (List AV)} {i : Nat} (h : i < es.length) : cntAcc c (es.drop i) = c es[i] + cntAcc c (es.drop (i + 1)) := by rw [List.drop_eq_getElem_cons h]; rfl
theorem hdAcc_le {g : List AV → Int → Int} {c : List AV → Nat} {es : List (List AV)} (hg : ∀ e ∈ es, ∀ k, 0 ≤ k → g e k = -1 ∨ g e k = k + c e) (k : Int) (hk : 0 ≤ k) : hdAcc g es k = -1 ∨ hdAcc g es k = k + cntAcc c es := by
  induction es generalizing k with
  | nil => right; simp [hdAcc, cntAcc]
  | cons e es ih =>
    rcases hg e (by simp) k hk with q | q
    · left; exact hdAcc_neg q
    · rw [hdAcc_pos q (by omega)]
      rcases ih (fun x hx => hg x (by simp [hx])) (k + c e) (by omega) with p | p
      · exact .inl p
      · right; rw [p, cntAcc]; omega
mutual
theorem hdCell_le : ∀ (s : Sch) (a : AV) (k : Int), shCell s a → 0 ≤ k → hdCell mt s a k = -1 ∨ hdCell mt s a k = k + cntCell s a
  | .int, a, k, h, hk => by
    unfold shCell at h; obtain ⟨n, rfl⟩ := h
    simp only [hdCell, cntCell]; split <;> simp
  | .str, a, k, h, hk => by
    unfold shCell at h; obtain ⟨n, rfl⟩ := h
    simp only [hdCell, cntCell]; split <;> simp
  | .bool, a, k, h, hk => by
    unfold shCell at h; obtain ⟨n, rfl⟩ := h
    simp only [hdCell, cntCell]; split <;> simp
  | .list fs, a, k, h, hk => by
    unfold shCell at h
    obtain ⟨es, rfl, h⟩ := h
    simp only [hdCell, cntCell]
    exact hdAcc_le (fun e he k hk => hdEl_le fs e k (h e he) hk) k hk
theorem hdEl_le : ∀ (fs : List Sch) (cs : List AV) (k : Int), shEl fs cs → 0 ≤ k → hdEl mt fs cs k = -1 ∨ hdEl mt fs cs k = k + cntEl fs cs
  | [], cs, k, _, hk => by simp [hdEl, cntEl]
  | s :: ss, cs, k, h, hk => by
    unfold shEl at h
    obtain ⟨c, r, rfl, h1, h2⟩ := h
    simp only [hdEl, cntEl]
    rcases hdCell_le s c k h1 hk with q | q
    · left; rw [q, if_pos (by omega)]
    · rw [q, if_neg (by omega)]
      rcases hdEl_le ss r (k + cntCell s c) h2 (by omega) with p | p
      · exact .inl p
      · right; rw [p]; omega
end
theorem cnt_len {c : List AV → Nat} : ∀ {es : List (List AV)}, (∀ e ∈ es, 1 ≤ c e) → es.length ≤ cntAcc c es
  | [], _ => by simp
  | e :: es, h => by
    have := cnt_len (c := c) (es := es) (fun x hx => h x (by simp [hx]))
    have := h e (by simp)
    simp only [cntAcc, List.length_cons]; omega
end Go.AW
