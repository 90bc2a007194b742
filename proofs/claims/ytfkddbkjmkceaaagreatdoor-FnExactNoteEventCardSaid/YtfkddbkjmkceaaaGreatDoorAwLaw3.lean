/-
 AW, part 46: a call with several results that hold memory: each has rows of its own.
-/
import Derived.Test.YtfkddbkjmkceaaaGreatDoorAwC
namespace Go.AW
open List
open Go.RowKit
set_option linter.unusedVariables false
set_option linter.unusedSimpArgs false
structure FX (f : List Nat) (H : List Row) (a r : AV) : Prop where
 tree : ∃ n, Own H n a r f
 one : f.Nodup
 lt : ∀ l ∈ f, l < H.length
structure FXL (f : List Nat) (H : List Row) (as rs : List AV) : Prop where
 tree : ∃ n, aI_ (Own H n) as rs f
 one : f.Nodup
 lt : ∀ l ∈ f, l < H.length
section
variable {lo hi : Nat} {f g : List Nat} {H H' : List Row} {a r : AV} {as rs : List AV}
theorem FX.keep (h : FX f H a r) (hk : ∀ l ∈ f, H'[l]? = H[l]?) (hl : H.length ≤ H'.length) : FX f H' a r := by
 obtain ⟨⟨n, h1⟩, h2, h3⟩ := h
 exact ⟨⟨n, h1.keep hk⟩, h2, fun l q => Nat.lt_of_lt_of_le (h3 l q) hl⟩
theorem FX.more (h : FX f H a r) (m : az_ H H') : FX f H' a r := h.keep (fun l q => m.kept l (h.lt l q)) m.len
theorem FX.but (h : FX f H a r) (m : But g H H') (d : ∀ l ∈ f, l ∉ g) : FX f H' a r := h.keep (fun l q => m.kept l (h.lt l q) (d l q)) m.len
theorem FX.arg (h : FX f H a r) : bT_ H a r := by
 obtain ⟨⟨n, h1⟩, _⟩ := h
 exact .inr ⟨n, f, h1⟩
theorem FXL.head (h : FXL f H (a :: as) (r :: rs)) : ∃ g k, FX g H a r ∧ FXL k H as rs ∧ (∀ l ∈ g, l ∈ f) ∧ (∀ l ∈ k, l ∈ f) ∧ ∀ l ∈ g, l ∉ k := by
 obtain ⟨⟨n, h1⟩, h2, h3⟩ := h
 obtain ⟨d, ds, g, k, e1, rfl, q1, q2⟩ := h1
 simp only [List.cons.injEq] at e1
 obtain ⟨rfl, rfl⟩ := e1
 obtain ⟨p1, p2, p3⟩ := nodup_append.1 h2
 exact ⟨g, k, ⟨⟨n, q1⟩, p1, fun l q => h3 l (mem_append_left _ q)⟩, ⟨⟨n, q2⟩, p2, fun l q => h3 l (mem_append_right _ q)⟩, fun l q => mem_append_left _ q, fun l q => mem_append_right _ q, fun l q q2 => p3 l q l q2 rfl⟩
theorem FXL.val {v u : Value} (h : FXL f H (.val v :: as) (.val u :: rs)) : AV.val v = AV.val u := by
 obtain ⟨⟨n, h1⟩, _⟩ := h
 obtain ⟨d, ds, g, k, e1, rfl, q1, q2⟩ := h1
 simp only [List.cons.injEq] at e1
 obtain ⟨rfl, rfl⟩ := e1
 exact q1.of_val.2
end
theorem qB_ {P : Program} {f : FuncId} {as rs : List AV} {H : List Row} {r : AV} {Q : AV → List Row → Prop} (hc : ∀ (h : List Row) (K : AV → List Row → Prop), (∀ av H', az_ h H' → FB h.length H'.length H' av r → Q av H' → K av H') → callSem P f rs h K)
 (hst : ∀ (n : Nat) (av : AV) (fs : List Nat) (X Y : List Row), Own X n av r fs → (∀ l ∈ fs, Y[l]? = X[l]?) → Q av X → Q av Y) (ha : ∀ (S : Sit) (w : World) (xs : List Value), ai_ S H w → ao_ S as xs → ao_ (S.shut w) rs xs)
 {K : AV → List Row → Prop} (hk : ∀ av H', az_ H H' → FB H.length H'.length H' av r → Q av H' → K av H') : callSem P f as H K :=
 lI_ (fun h K hk => hc h K fun av H' m F q => by
  obtain ⟨hn, rfl⟩ := m.tail
  exact hk av hn F.tree.fresh q) hst ha fun av hn hf hq => hk av _ (az_.app _ _) ⟨hf.b, Nat.le_refl _⟩ hq
theorem aK_.pureAny {P : Program} {f : FuncId} {as rs : List AV} {H : List Row} {r : AV} {Q : AV → Prop} (hc : aK_ P f rs r Q) (ha : aZ_ H as rs) : aa_ P f as H r := by
 intro K hk S w vals hm hgl hr
 have hm0 : ai_ (S.shut w) [] w := ⟨hm.shut, rfl, by simp [Sit.shut], by simp [Sit.shut]⟩
 refine (hc [] (fun av h' => dj_ 0 h' av r) (fun av hn hf _ => by simpa using hf) (S.shut w) w vals hm0 (hgl.shut hm) (ha.rep hm hr)).mono ?_
 rintro e w' ⟨v, av, S1, hn, rfl, st, hm1, rv, n, fs, ho, hnd, hge⟩
 have hno : ∀ b, ¬ (S.shut w).owns b := by
  rintro b ⟨l, i, q1, q2⟩
  simp [Sit.shut] at q1
 have hb : Below w.heap.size w w' := ⟨st.os, st.tape, st.output, st.size, fun k hk => st.block k hk (hno k)⟩
 have hnew : ∀ b, S1.owns b → w.heap.size ≤ b := fun b hb => (st.ownNew b hb).resolve_left (hno b)
 have hm' := hm.below hb
 let S4 : Sit := { imm := S.imm, rows := fH_ fs 0 S1.rows }
 have hrows : ∀ l ∈ fs, S4.rows[l]? = S1.rows[l]? := by
  intro l hl
  show (fH_ fs 0 S1.rows)[l]? = _
  simp only [fH_, getElem?_mapIdx, Nat.zero_add]
  cases S1.rows[l]? with
  | none => rfl
  | some i => simp [hl]
 have hR : ∀ l ∈ fs, (gH_ fs 0 hn)[l]? = hn[l]? := by
  intro l hl
  simp only [gH_, getElem?_mapIdx, Nat.zero_add]
  cases hn[l]? with
  | none => rfl
  | some i => simp [hl]
 have hcase : ∀ (l : Nat) (i : ci_), S4.rows[l]? = some i → (l ∈ fs ∧ S1.rows[l]? = some i) ∨ (l ∉ fs ∧ i = ds_) := by
  intro l i q
  by_cases hf : l ∈ fs
  ·exact .inl ⟨hf, by rw [← hrows l hf]; exact q⟩
  ·refine .inr ⟨hf, ?_⟩
   have q' : (fH_ fs 0 S1.rows)[l]? = some i := q
   simp only [fH_, getElem?_mapIdx, Nat.zero_add, Option.map_eq_some_iff] at q'
   obtain ⟨j, _, e⟩ := q'
   simp [hf] at e
   exact e.symm
 have hm4 : ai_ S4 (gH_ fs 0 hn) w' := by
  refine ⟨hm'.imm, by simp only [S4, fH_, gH_, length_mapIdx]; exact hm1.len, fun l i row q1 q2 => ?_, fun l l' i i' b q1 q1' q2 q2' => ?_⟩
  ·rcases hcase l i q1 with ⟨hf, q⟩ | ⟨hf, q⟩
   ·rw [hR l hf] at q2
    obtain ⟨k1, k2, k3, k4⟩ := hm1.rows l i row q q2
    refine ⟨k1, k2, k3, ?_⟩
    cases hbk : i.blk with
    | none => rw [hbk] at k4; exact k4
    | some b =>
     rw [hbk] at k4
     have hbig := hnew b ⟨l, i, q, hbk⟩
     refine ⟨?_, ?_⟩
     ·cases hi : S.imm b with
      | none => rfl
      | some d => have := hm.immLt hi; omega
     ·have k5 := k4.2
      unfold bC_ at k5 ⊢
      split at k5
      case h_2 => exact k5
      case h_1 =>
       obtain ⟨c, j2, j3, j4⟩ := k5
       refine ⟨c, j2, ?_, j4⟩
       obtain ⟨row', m, es, g, p1, p2, p3⟩ := ho.inner l hf
       rw [q2] at p1
       obtain rfl := Option.some.inj p1
       exact a2_.trans (fun a x r g' hg' hoa hx => Own.trans (fun l' hl' => hrows l' (p3 l' (hg' l' hl'))) hoa hx) p2 j3
      case h_3 =>
       obtain ⟨⟨c, j2, j3, j4⟩, j5⟩ := k5
       refine ⟨⟨c, j2, ?_, j4⟩, j5⟩
       obtain ⟨row', m, es, g, p1, p2, p3⟩ := ho.inner l hf
       rw [q2] at p1
       obtain rfl := Option.some.inj p1
       exact a2_.trans (fun a x r g' hg' hoa hx => Own.trans (fun l' hl' => hrows l' (p3 l' (hg' l' hl'))) hoa hx) p2 j3
   ·subst q
    simp only [gH_, getElem?_mapIdx, Nat.zero_add, Option.map_eq_some_iff] at q2
    obtain ⟨j, _, e⟩ := q2
    simp [hf] at e
    subst e
    exact ⟨rfl, rfl, by simp [fV_], rfl, rfl⟩
  ·rcases hcase l i q1 with ⟨_, q⟩ | ⟨_, q⟩ <;> rcases hcase l' i' q1' with ⟨_, q'⟩ | ⟨_, q'⟩
   ·exact hm1.one l l' i i' b q q' q2 q2'
   ·subst q'; simp [ds_] at q2'
   ·subst q; simp [ds_] at q2
   ·subst q; simp [ds_] at q2
 have rr := Own.rep hm4 n av v r fs (Own.trans hrows ho rv) (ho.keep hR)
 have hown4 : ∀ b, S4.owns b → w.heap.size ≤ b := by
  rintro b ⟨l, i, q1, q2⟩
  rcases hcase l i q1 with ⟨_, q⟩ | ⟨_, q⟩
  ·exact hnew b ⟨l, i, q, q2⟩
  ·subst q; simp [ds_] at q2
 have hshut : ∀ b c, (S4.shut w').imm b = some c → S.imm b = some c ∨ w.heap.size ≤ b := by
  intro b c hb
  simp only [Sit.shut] at hb
  split at hb
  ·rename_i hq
   exact .inr (hown4 b (dC_.1 hq))
  ·exact .inl hb
 have hle : S.le { imm := (S4.shut w').imm, rows := S.rows } := ⟨fun b c e => (g3_ hm4).imm b c e, fun l i e => ⟨i, e, Nat.le_refl _, fun _ => rfl⟩⟩
 have hl2 : (S4.shut w').le { imm := (S4.shut w').imm, rows := S.rows } := ⟨fun _ _ e => e, by simp [Sit.shut]⟩
 refine ⟨v, r, { imm := (S4.shut w').imm, rows := S.rows }, H, rfl, ⟨hle, hb.os, hb.tape, hb.output, hb.size, fun b hlt _ => hb.block b hlt, fun b q => .inl q, fun b c q => ?_⟩, ⟨fun b c q => hm4.shut b c q, hm.len, fun l i rw q1 q2 => ?_, hm.one⟩, Rep.up hl2 _ _ rr, hk⟩
 ·rcases hshut b c q with q | q
  ·exact .inl q
  ·exact .inr (.inr q)
 ·obtain ⟨k1, k2, k3, k4⟩ := hm.rows l i rw q1 q2
  refine ⟨k1, k2, k3, ?_⟩
  cases hbk : i.blk with
  | none => rw [hbk] at k4; exact k4
  | some b =>
   rw [hbk] at k4
   have j1 := k4.1
   have hlt := hm.ownLt ⟨l, i, q1, hbk⟩
   refine ⟨?_, k4.2.le hle (hb.block b hlt)⟩
   cases q : (S4.shut w').imm b with
   | none => rfl
   | some d =>
    rcases hshut b d q with q' | q'
    ·rw [j1] at q'; cases q'
    ·omega
end Go.AW
