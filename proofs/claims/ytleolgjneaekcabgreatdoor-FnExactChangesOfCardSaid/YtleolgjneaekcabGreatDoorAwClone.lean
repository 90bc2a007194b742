/-
  AW, part 33: copies of slices that the library makes: a new row somewhere above.
-/
import Derived.Test.YtleolgjneaekcabGreatDoorAwFresh
import Derived.Test.YtleolgjneaekcabGreatDoorAwShelf
namespace Go.AW
set_option linter.unusedVariables false
set_option linter.unusedSimpArgs false
open Go.RowKit (Below)

/-- A new row that lies somewhere above; what was below stands. -/
theorem Models.newAt {S : Sit} {h : List Row} {w w' : World} (m : Models S h w) {E : Tag} {sz cap g : Nat} {es : List (List AV)} (hlen : ∀ e ∈ es, e.length = sz) (hg : w.heap.size ≤ g)
    (hst : Stored { imm := S.imm, rows := S.rows ++ [⟨es.length, some g, cap, sz⟩] } w' g ⟨es.length, some g, cap, sz⟩ ⟨E, sz, es⟩) (hb : Below w.heap.size w w') :
    Models { imm := S.imm, rows := S.rows ++ [⟨es.length, some g, cap, sz⟩] } (h ++ [⟨E, sz, es⟩]) w' ∧
    Step S w { imm := S.imm, rows := S.rows ++ [⟨es.length, some g, cap, sz⟩] } w' := by
  have hle : S.le { imm := S.imm, rows := S.rows ++ [⟨es.length, some g, cap, sz⟩] } := S.le_push _
  have hold : ∀ b, b < w.heap.size → w'.heap[b]? = w.heap[b]? := hb.block
  have himm : S.imm g = none := by
    cases q : S.imm g with
    | none => rfl
    | some d => have := m.immLt q; omega
  have hrow : ∀ (l : Nat) (i : Info), (S.rows ++ [⟨es.length, some g, cap, sz⟩])[l]? = some i → S.rows[l]? = some i ∨ (l = S.rows.length ∧ i = ⟨es.length, some g, cap, sz⟩) := by
    intro l i q
    by_cases hl : l < S.rows.length
    · rw [List.getElem?_append_left hl] at q; exact .inl q
    · rw [List.getElem?_append_right (by omega)] at q
      have : l - S.rows.length = 0 := by
        by_cases z : l - S.rows.length = 0
        · exact z
        · obtain ⟨k, hk⟩ := Nat.exists_eq_succ_of_ne_zero z
          rw [hk] at q; simp at q
      rw [this] at q
      simp at q
      exact .inr ⟨by omega, q.symm⟩
  have hblk : ∀ (l : Nat) (i : Info), S.rows[l]? = some i → i.blk ≠ some g := by
    intro l i q e
    have := m.ownLt ⟨l, i, q, e⟩
    omega
  refine ⟨⟨fun b d q => ?_, by simp [m.len], fun l i r h1 h2 => ?_, fun l l' i i' b h1 h2 h3 h4 => ?_⟩, ⟨hle, hb.os, hb.tape, hb.output, hb.size, fun b q _ => hold b q, fun b q => ?_, fun b d q => .inl q⟩⟩
  · rw [hold b (m.immLt q)]; exact m.imm b d q
  · rcases hrow l i h1 with q | ⟨q1, q2⟩
    · have hl : l < h.length := by
        rw [← m.len]; rcases List.getElem?_eq_some_iff.1 q with ⟨q, _⟩; exact q
      rw [List.getElem?_append_left hl] at h2
      obtain ⟨k1, k2, k3, k4⟩ := m.rows l i r q h2
      refine ⟨k1, k2, k3, ?_⟩
      cases hb' : i.blk with
      | none => rw [hb'] at k4; exact k4
      | some b =>
        rw [hb'] at k4
        exact ⟨k4.1, k4.2.le hle (hold b (m.ownLt ⟨l, i, q, hb'⟩))⟩
    · subst q1 q2
      rw [m.len, List.getElem?_append_right (Nat.le_refl _)] at h2
      simp at h2
      subst h2
      exact ⟨rfl, rfl, hlen, himm, hst⟩
  · rcases hrow l i h1 with q | ⟨q1, q2⟩ <;> rcases hrow l' i' h2 with q' | ⟨q1', q2'⟩
    · exact m.one l l' i i' b q q' h3 h4
    · subst q2'; simp at h4; subst h4; exact absurd h3 (hblk l i q)
    · subst q2; simp at h3; subst h3; exact absurd h4 (hblk l' i' q')
    · omega
  · obtain ⟨l, i, q1, q2⟩ := q
    rcases hrow l i q1 with q | ⟨_, q⟩
    · exact .inl ⟨l, i, q, q2⟩
    · subst q; simp at q2; subst q2; exact .inr hg

abbrev strC (s : ByteArray) : List AV := [.val (.string s)]
theorem strs_vals (S : Sit) : ∀ (xs : List ByteArray) (vs : List Value), vs.take xs.length = xs.map Value.string → RepLL S (xs.map strC) vs
  | [], vs, _ => by simp [RepLL]
  | x :: xs, vs, h => by
    cases vs with
    | nil => simp at h
    | cons v vs =>
      simp only [List.length_cons, List.take_succ_cons, List.map_cons, List.cons.injEq] at h
      simp only [List.map_cons, RepLL, RepPre, strC, List.length_singleton, List.drop_succ_cons, List.drop_zero]
      exact ⟨⟨v, vs, rfl, by simp [Rep, h.1], trivial⟩, strs_vals S xs vs h.2⟩
theorem strs_back (S : Sit) : ∀ (xs : List ByteArray) (vs : List Value) (j : Nat), RepLL S (xs.map strC) vs → j < xs.length → vs[j]? = some (.string (xs.getD j ByteArray.empty))
  | [], vs, j, _, h => by simp at h
  | x :: xs, vs, j, r, h => by
    simp only [List.map_cons, RepLL, RepPre, strC] at r
    obtain ⟨⟨v, r', rfl, r1, _⟩, r2⟩ := r
    simp only [List.length_singleton, List.drop_succ_cons, List.drop_zero] at r2
    cases j with
    | zero => simp [Rep] at r1; simp [r1]
    | succ j => simpa using strs_back S xs r' j r2 (by simpa using h)
theorem own_strs {h0 : List Row} {E : Tag} (xs : List ByteArray) : Fresh h0.length (h0 ++ [⟨E, 1, xs.map strC⟩]) (.own h0.length xs.length) (.list 0 1 (xs.map strC)) :=
  (FreshB.mkown (E := E) (lo := h0.length + 1) (hi := h0.length + 1) (FreshLLB.ofVals _ _ _ _ (by
    intro e he c hc
    obtain ⟨x, _, q⟩ := List.mem_map.1 he; subst q
    simp only [strC, List.mem_singleton] at hc
    exact ⟨_, hc⟩)) (by simp) (by simp) (Nat.le_refl _) (Nat.lt_succ_self _) (Nat.le_refl _)).fresh
/-- slices.Clone of a list of texts, as the shelf states it, taken over. -/
theorem clone_fresh {P : Program} {f : FuncId} {T : TypeId}
    (hcl : ∀ (b off n c : Nat) (zs : List ByteArray) (w : World), n ≤ zs.length → n * 16 ≤ 140737488355328 → (∀ j, j < zs.length → w.cell? ⟨b, off + j, none⟩ = some (.string (zs.getD j ByteArray.empty))) →
      Calls P f #[.slice (some ⟨b, off, none⟩) n c] w fun e w' => ∃ v', e = .returned v' ∧ w'.ownsRow w.heap.size T 1 v' n ((zs.take n).map Value.string) ∧ v' ≠ .slice none 0 0 ∧ Below w.heap.size w w')
    (hnil : ∀ (n c : Nat) (w : World), Calls P f #[.slice none n c] w fun e w' => e = .returned (.slice none 0 0) ∧ w' = w)
    (hz : ∀ (a : Addr) (c : Nat) (w : World), Calls P f #[.slice (some a) 0 c] w fun e w' => ∃ v', e = .returned v' ∧ w'.ownsRow w.heap.size T 1 v' 0 [] ∧ Below w.heap.size w w')
    (xs : List ByteArray) (hx : xs.length ≤ 1048576) : FreshCall P f [.list 0 1 (xs.map strC)] (.list 0 1 (xs.map strC)) (fun a => ∃ l, a = .own l xs.length) := by
  intro h K hk S w vals hm hgl hr
  simp only [RepL] at hr
  obtain ⟨v, r, e, hv, rfl⟩ := hr
  have e' : vals = #[v] := by cases vals; simp at e; rw [e]
  subst e'
  have fin : ∀ (w' : World) (v' : Value), w'.ownsRow w.heap.size T 1 v' xs.length (xs.map Value.string) → Below w.heap.size w w' →
      ∃ v av S' h', Ending.returned v' = .returned v ∧ Step S w S' w' ∧ Models S' h' w' ∧ Rep S' av v ∧ K av h' := by
    intro w' v' ho hb
    obtain ⟨_, ho⟩ := ho
    have hK := hk (.own h.length xs.length) [⟨.ty T, 1, xs.map strC⟩] (own_strs xs) ⟨_, rfl⟩
    rcases ho with ⟨rfl, hn⟩ | ⟨g, cap, cur, rfl, hg, hcur, hnc, hmax, hsz, htk⟩
    · have hxn : xs = [] := List.length_eq_zero_iff.1 hn
      subst hxn
      have hm' : Models S h w' := hm.below hb
      obtain ⟨m2, s2⟩ := Models.newNil hm' (E := .ty T) (sz := 1)
      refine ⟨_, _, _, _, rfl, (Step.below hb).trans s2, m2, ?_, hK⟩
      simp only [Rep]
      exact ⟨⟨_, _, _, rfl⟩, ⟨0, none, 0, 1⟩, by rw [← hm.len]; simp, Nat.le_refl _, fun _ => .inl rfl⟩
    · have hst : Stored { imm := S.imm, rows := S.rows ++ [⟨(xs.map strC).length, some g, cap, 1⟩] } w' g ⟨(xs.map strC).length, some g, cap, 1⟩ ⟨.ty T, 1, xs.map strC⟩ := by
        refine ⟨cur, hcur, strs_vals _ xs _ (by simpa using htk), hsz, by simpa using hnc, hmax⟩
      obtain ⟨m2, s2⟩ := Models.newAt hm (E := .ty T) (by intro e he; obtain ⟨x, _, q⟩ := List.mem_map.1 he; subst q; rfl) hg hst hb
      refine ⟨_, _, _, _, rfl, s2, m2, ?_, hK⟩
      simp only [Rep]
      exact ⟨⟨_, _, _, rfl⟩, ⟨(xs.map strC).length, some g, cap, 1⟩, by rw [← hm.len]; simp, by simp, fun _ => .inl (by simp [sliceAt])⟩
  simp only [Rep] at hv
  rcases hv with ⟨hn, _, p, c, rfl⟩ | ⟨b, off, cap, c, rfl, h1, h2, h3, _, h5, h6⟩
  · have hxn : xs = [] := by simpa using hn
    subst hxn
    cases p with
    | none =>
      refine (hnil 0 c w).mono ?_
      rintro en w' ⟨rfl, rfl⟩
      exact fin w' _ ⟨rfl, .inl ⟨rfl, rfl⟩⟩ (Below.refl _ _)
    | some a =>
      refine (hz a c w).mono ?_
      rintro en w' ⟨v', rfl, ho, hb⟩
      exact fin w' v' ho hb
  · have hlen : (xs.map strC).length = xs.length := by simp
    rw [hlen]
    refine (hcl b off xs.length cap xs w (Nat.le_refl _) (by omega) ?_).mono ?_
    · intro j hj
      obtain ⟨E, fr, hw⟩ := hm.imm b c h2
      have := strs_back _ xs _ j h6 hj
      rw [List.getElem?_drop] at this
      simp only [World.cell?, hw]
      simpa using this
    · rintro en w' ⟨v', rfl, ho, _, hb⟩
      rw [List.take_length] at ho
      exact fin w' v' ho hb
end Go.AW
