/-
  AW: a row that a call of the library's has laid is taken over.
-/
import Derived.Test.YtkddmakjmjmokaaGreatDoorAwSortS
import Derived.Laws.AppendOwn
namespace Go.AW
open Go.RowKit (Below)
open Go.Proofs (encStr)

/-- A block of the callee's own becomes a row. -/
theorem Models.takeOver {S : Sit} {h : List Row} {w w' : World} (m : Models S h w) (hB : Below w.heap.size w w') {gb : Nat} (hge : w.heap.size ≤ gb) {E : TypeId} {sz cap : Nat} {es : List (List AV)} {c : Array Value}
    (hrep : RepLL S es c.toList) (hlen : ∀ e ∈ es, e.length = sz) (hsize : c.size = cap * sz) (hcap : es.length ≤ cap) (hmax : cap ≤ maxLen) (hcell : w'.heap[gb]? = some (.cells c E (0, 0))) :
    Models { imm := S.imm, rows := S.rows ++ [⟨es.length, some gb, cap, sz⟩] } (h ++ [⟨E, sz, es⟩]) w' ∧
    Step S w { imm := S.imm, rows := S.rows ++ [⟨es.length, some gb, cap, sz⟩] } w' := by
  have hle := S.le_push ⟨es.length, some gb, cap, sz⟩
  have himm : S.imm gb = none := by
    cases q : S.imm gb with
    | none => rfl
    | some d => have := m.immLt q; omega
  have hrow : ∀ (l : Nat) (i : Info), (S.rows ++ [⟨es.length, some gb, cap, sz⟩])[l]? = some i → S.rows[l]? = some i ∨ (l = S.rows.length ∧ i = ⟨es.length, some gb, cap, sz⟩) := by
    intro l i q
    by_cases hl : l < S.rows.length
    · rw [List.getElem?_append_left hl] at q; exact .inl q
    · rw [List.getElem?_append_right (by omega)] at q
      have : l - S.rows.length = 0 := by
        by_cases z : l - S.rows.length = 0
        · exact z
        · obtain ⟨k, hk⟩ := Nat.exists_eq_succ_of_ne_zero z
          rw [hk] at q; simp at q
      rw [this] at q
      simp at q
      exact .inr ⟨by omega, q.symm⟩
  have hblk : ∀ (l : Nat) (i : Info), S.rows[l]? = some i → i.blk ≠ some gb := by
    intro l i q e
    have := m.ownLt ⟨l, i, q, e⟩
    omega
  refine ⟨⟨fun b d q => ?_, by simp [m.len], fun l i r h1 h2 => ?_, fun l l' i i' b h1 h2 h3 h4 => ?_⟩, ⟨hle, hB.os, hB.tape, hB.output, hB.size, fun b hb _ => hB.block b hb, fun b q => ?_, fun b d q => .inl q⟩⟩
  · rw [hB.block b (m.immLt q)]; exact m.imm b d q
  · rcases hrow l i h1 with q | ⟨q1, q2⟩
    · have hl : l < h.length := by
        rw [← m.len]; rcases List.getElem?_eq_some_iff.1 q with ⟨q, _⟩; exact q
      rw [List.getElem?_append_left hl] at h2
      obtain ⟨k1, k2, k3, k4⟩ := m.rows l i r q h2
      refine ⟨k1, k2, k3, ?_⟩
      cases hb : i.blk with
      | none => rw [hb] at k4; exact k4
      | some b =>
        rw [hb] at k4
        exact ⟨k4.1, k4.2.le hle (hB.block b (m.ownLt ⟨l, i, q, hb⟩))⟩
    · subst q1 q2
      rw [m.len, List.getElem?_append_right (Nat.le_refl _)] at h2
      simp at h2
      subst h2
      exact ⟨rfl, rfl, hlen, himm, c, hcell, RepLL.up hle _ _ hrep, hsize, hcap, hmax⟩
  · rcases hrow l i h1 with q | ⟨q1, q2⟩ <;> rcases hrow l' i' h2 with q' | ⟨q1', q2'⟩
    · exact m.one l l' i i' b q q' h3 h4
    · subst q2'; simp at h4; subst h4; exact absurd h3 (hblk l i q)
    · subst q2; simp at h3; subst h3; exact absurd h4 (hblk l' i' q')
    · omega
  · obtain ⟨l, i, q1, q2⟩ := q
    rcases hrow l i q1 with q | ⟨_, q⟩
    · exact .inl ⟨l, i, q, q2⟩
    · subst q; simp at q2; subst q2; exact .inr hge
/-- A call of the library's that collects texts which lie in a boxed list. -/
theorem collect_own {P : Program} {f g : FuncId} {E EB : TypeId}
    (hC : ∀ (Bs : Nat) (sv : Value) (zs : List (List UInt8)) (w : World), zs.length ≤ 1048576 → Bs < w.heap.size → w.cell? ⟨Bs, 0, none⟩ = some sv →
      ((∃ p cap, sv = .slice p 0 cap ∧ zs = []) ∨ ∃ b off cap, sv = .slice (some ⟨b, off, none⟩) zs.length cap ∧ b < w.heap.size ∧ ∀ j, j < zs.length → w.cell? ⟨b, off + j, none⟩ = some (encStr (zs[j]?.getD []))) →
      Calls P f #[.func (.func g) #[] #[.pointer (some ⟨Bs, 0, none⟩)]] w fun e W' => ∃ v, e = .returned v ∧ W'.ownsRow w.heap.size E 1 v zs.length (zs.map encStr) ∧ (v = .slice none 0 0 ↔ zs = []) ∧ Below w.heap.size w W')
    {zs : List (List UInt8)} {l : Nat} {H : List Row} (hl : H[l]? = some ⟨.ty EB, 1, [[.list 0 1 (tCells zs)]]⟩) (hlen : zs.length ≤ 1048576) {K : AV → List Row → Prop} (hk : K (.own H.length zs.length) (H ++ [⟨.ty E, 1, tCells zs⟩])) :
    callSem P f [.fn g [] [.ptr l 1 0 0]] H K := by
  intro S w vals hm hgl hr
  simp only [RepL] at hr
  obtain ⟨x, r, e, rx, e2⟩ := hr
  subst e2
  have e' : vals = #[x] := by cases vals; simp at e; rw [e]
  subst e'
  simp only [Rep] at rx
  obtain ⟨vs, us, rfl, r1, r2⟩ := rx
  simp only [RepL] at r1 r2
  obtain ⟨pv, r3, e3, rp, e4⟩ := r2
  subst e4
  have ev : vs = #[] := by cases vs; simp at r1; rw [r1]
  have eu : us = #[pv] := by cases us; simp at e3; rw [e3]
  subst ev eu
  simp only [Rep] at rp
  obtain ⟨_, i, q1, q2, q3⟩ := rp
  obtain ⟨k1, k2, k3, k4⟩ := hm.rows l i _ q1 hl
  obtain ⟨b, hb, hp⟩ := q3 (by rw [k1]; rfl)
  rw [hb] at k4
  obtain ⟨_, k5⟩ := k4
  rw [Stored.ty (E := EB) rfl] at k5
  obtain ⟨c, j2, j3, j4, j5, j6⟩ := k5
  have hp' : pv = .pointer (some ⟨b, 0, none⟩) := by rw [hp]; simp
  subst hp'
  rw [RepLL_iff (sz := 1) (fun e he => by simp at he; subst he; rfl)] at j3
  obtain ⟨sv, hsv, rsv⟩ := j3 0 _ rfl 0 _ rfl
  have hsv' : c[0]? = some sv := by simpa using hsv
  have hcell : w.cell? ⟨b, 0, none⟩ = some sv := by
    simp only [World.cell?, j2, hsv']
    rfl
  have hblt : b < w.heap.size := (Array.getElem?_eq_some_iff.1 j2).1
  have hI : (∃ p cap, sv = .slice p 0 cap ∧ zs = []) ∨ ∃ b off cap, sv = .slice (some ⟨b, off, none⟩) zs.length cap ∧ b < w.heap.size ∧ ∀ j, j < zs.length → w.cell? ⟨b, off + j, none⟩ = some (encStr (zs[j]?.getD [])) := by
    simp only [Rep] at rsv
    rcases rsv with ⟨z1, _, p, cc, z2⟩ | ⟨b', off, cap, c', z1, z2, z3, z4, z5, z6, z7⟩
    · have : zs = [] := by simpa [tCells] using z1
      exact .inl ⟨p, cc, z2, this⟩
    · rw [tCells_len] at z1
      obtain ⟨E', fr, hbk⟩ := hm.imm b' c' z3
      rw [RepLL_txts] at z7
      refine .inr ⟨b', off, cap, z1, hm.immLt z3, fun j hj => ?_⟩
      have h7 := z7 j hj
      rw [List.getElem?_drop] at h7
      have h8 : c'[off + j]? = some (.string (txt zs[j])) := by simpa using h7
      simp only [World.cell?, hbk, h8]
      rw [List.getElem?_eq_getElem hj]
      rfl
  refine (hC b sv zs w hlen hblt hcell hI).mono ?_
  rintro e w' ⟨v, rfl, ⟨hl1, hrow⟩, hnil, hB⟩
  by_cases hz : zs = []
  · subst hz
    have hv := hnil.2 rfl
    subst hv
    have hn := Models.newNil (hm.below hB) (E := .ty E) (sz := 1)
    refine ⟨_, .own H.length 0, _, _, rfl, (Step.below hB).trans hn.2, hn.1, ?_, hk⟩
    simp only [Rep]
    refine ⟨⟨_, _, _, rfl⟩, ⟨0, none, 0, 1⟩, ?_, Nat.le_refl _, fun _ => .inl rfl⟩
    rw [← hm.len]; simp
  · rcases hrow with ⟨h1, _⟩ | ⟨gb, cap, cur, rfl, hge, hcl, hcap, hmax, hsz, htk⟩
    · exact absurd (hnil.1 h1) hz
    · have ha := Models.takeOver hm hB hge (es := tCells zs) (sz := 1) (cap := cap) (c := cur) (E := E) (by
        rw [RepLL_txts]
        intro j hj
        have h5 := congrArg (fun q => q[j]?) htk
        simp only [List.getElem?_take, Nat.mul_one, hj, if_true, List.getElem?_map, List.getElem?_eq_getElem hj, Option.map_some] at h5
        exact h5) (tCells_one _) hsz (by rw [tCells_len]; exact hcap) hmax hcl
      refine ⟨_, .own H.length zs.length, _, _, rfl, ha.2, ha.1, ?_, hk⟩
      simp only [Rep]
      refine ⟨⟨_, _, _, rfl⟩, ⟨(tCells zs).length, some gb, cap, 1⟩, ?_, ?_, fun _ => .inl ?_⟩
      · rw [← hm.len]; simp
      · show zs.length ≤ (tCells zs).length
        rw [tCells_len]; exact Nat.le_refl _
      · simp only [sliceAt, tCells_len]
end Go.AW
