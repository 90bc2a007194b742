/-
  AW, part 35: how a law that marks memory is run: what is known of the rows, carried on.
-/
import Derived.Test.YtleolgjneaekcabGreatDoorAwFresh
namespace Go.AW
set_option linter.unusedVariables false
set_option linter.unusedSimpArgs false

/-- A tree of rows between lo and hi. -/
structure FB (lo hi : Nat) (H : List Row) (a r : AV) : Prop where
  tree : FreshB lo hi H a r
  le : hi ≤ H.length
/-- The older rows stay. -/
structure More (H H' : List Row) : Prop where
  len : H.length ≤ H'.length
  kept : ∀ l, l < H.length → H'[l]? = H[l]?
/-- All rows stay but those of fs. -/
structure But (fs : List Nat) (H H' : List Row) : Prop where
  len : H.length ≤ H'.length
  kept : ∀ l, l < H.length → l ∉ fs → H'[l]? = H[l]?
section
variable {lo hi : Nat} {H H' : List Row} {a r : AV} {fs : List Nat}
theorem More.at {i : Nat} {row : Row} (m : More H H') (o : H[i]? = some row) : H'[i]? = some row := (m.kept i (List.getElem?_eq_some_iff.1 o).1).trans o
theorem More.fb (m : More H H') (f : FB lo hi H a r) : FB lo hi H' a r := ⟨f.tree.keep fun l _ h2 => m.kept l (by have := f.le; omega), Nat.le_trans f.le m.len⟩
theorem More.row (H : List Row) (row : Row) : More H (H ++ [row]) := ⟨by simp, fun l hl => List.getElem?_append_left hl⟩
theorem More.trans {H'' : List Row} (h : More H H') (k : More H' H'') : More H H'' := ⟨Nat.le_trans h.len k.len, fun l hl => (k.kept l (Nat.lt_of_lt_of_le hl h.len)).trans (h.kept l hl)⟩
theorem But.at {i : Nat} {row : Row} (m : But fs H H') (o : H[i]? = some row) (h : i ∉ fs) : H'[i]? = some row := (m.kept i (List.getElem?_eq_some_iff.1 o).1 h).trans o
theorem But.fb (m : But fs H H') (f : FB lo hi H a r) (h : ∀ l, lo ≤ l → l < hi → l ∉ fs) : FB lo hi H' a r := ⟨f.tree.keep fun l h1 h2 => m.kept l (by have := f.le; omega) (h l h1 h2), Nat.le_trans f.le m.len⟩
end
theorem new_row (H : List Row) (r : Row) : (H ++ [r])[H.length]? = some r := by rw [getA0]; rfl
/-- A call that gives a new tree. -/
theorem fresh_step {P : Program} {f : FuncId} {as rs : List AV} {H : List Row} {r : AV} {Q : AV → Prop} (hc : FreshCall P f rs r Q) (ha : ArgsOwn H as rs) {K : AV → List Row → Prop} (hk : ∀ av H', More H H' → FB H.length H'.length H' av r → Q av → K av H') : callSem P f as H K :=
  fresh_own hc ha fun av hn hf hq => hk av (H ++ hn) ⟨by simp, fun l hl => List.getElem?_append_left hl⟩ ⟨hf.b, Nat.le_refl _⟩ hq
theorem fresh_plain {P : Program} {f : FuncId} {as : List AV} {H : List Row} {r : AV} {Q : AV → Prop} (hc : FreshCall P f as r Q) {K : AV → List Row → Prop} (hk : ∀ av H', More H H' → FB H.length H'.length H' av r → Q av → K av H') : callSem P f as H K :=
  hc H K fun av hn hf hq => hk av (H ++ hn) ⟨by simp, fun l hl => List.getElem?_append_left hl⟩ ⟨hf.b, Nat.le_refl _⟩ hq
/-- A slice that is the call's own is marked. -/
theorem mark_step {P : Program} {F : FuncId} {mt : Int → ByteArray} {fs : List Sch} (hc : MarkC P F mt fs) {lo hi : Nat} {H : List Row} {a : AV} {es : List (List AV)} {k : Int} {K : AV → List Row → Prop} (ha : FB lo hi H a (.list 0 fs.length es)) (hsh : ∀ e ∈ es, shEl fs e) (hk : 0 ≤ k) (hb : k + cntAcc (cntEl fs) es ≤ 4611686018427387904)
    (hK : ∀ H' g, (∀ l ∈ g, lo ≤ l ∧ l < hi) → But g H H' → FB lo hi H' a (.list 0 fs.length (mapAcc (mkEl mt fs) es k).1) → K (.val (.int .i64 (mapAcc (mkEl mt fs) es k).2)) H') : callSem P F [a, .val (.int .i64 k)] H K := by
  obtain ⟨⟨n, g, h1, h2, h3⟩, h4⟩ := ha
  refine hc n a es g H k K h1 h2 hsh hk hb fun H' m' e1 e2 e3 => hK H' g h3 ⟨by omega, fun l _ hg => e2 l hg⟩ ⟨⟨m', g, e3, h2, h3⟩, by omega⟩
theorem mark_agg {P : Program} {F : FuncId} {mt : Int → ByteArray} {fs : List Sch} (hc : MarkA P F mt fs) {lo hi : Nat} {H : List Row} {cs ds : List AV} {k : Int} {K : AV → List Row → Prop} (ha : FB lo hi H (.agg cs) (.agg ds)) (hsh : shEl fs ds) (hk : 0 ≤ k) (hb : k + cntTop fs ds ≤ 4611686018427387904)
    (hK : ∀ H' g, (∀ l ∈ g, lo ≤ l ∧ l < hi) → But g H H' → FB lo hi H' (.agg cs) (.agg (mkTop mt fs ds k).1) → K (.val (.int .i64 (mkTop mt fs ds k).2)) H') : callSem P F [.agg cs, .val (.int .i64 k)] H K := by
  have h4 := ha.le
  obtain ⟨n, g, h1, h2, h3⟩ := ha.tree.unagg
  refine hc n cs ds g H k K h1 h2 hsh hk hb fun H' e1 e2 ⟨m', e3⟩ => hK H' g h3 ⟨e1, fun l hl hg => e2 l hl hg⟩ ⟨⟨m' + 1, g, ⟨_, e3, rfl⟩, h2, h3⟩, by omega⟩
/-- The parts of a result. -/
theorem FB.two {lo hi : Nat} {H : List Row} {a r : AV} {v u : Value} (h : FB lo hi H (.tup [a, .val v]) (.tup [r, .val u])) : FB lo hi H a r ∧ (.val v = AV.val u) := by
  have h4 := h.le
  obtain ⟨n, fs, h1, h2, h3⟩ := h.tree.untup
  obtain ⟨d, ds, f, f', e1, rfl, q1, q2⟩ := h1
  simp only [List.cons.injEq] at e1
  obtain ⟨rfl, rfl⟩ := e1
  obtain ⟨d, ds, f2, f3, e1, rfl, q3, q4⟩ := q2
  simp only [List.cons.injEq] at e1
  obtain ⟨rfl, rfl⟩ := e1
  obtain ⟨_, rfl⟩ := q4
  obtain ⟨rfl, e⟩ := q3.of_val
  refine ⟨⟨⟨n, f, q1, (List.nodup_append.1 h2).1, fun l hl => h3 l (List.mem_append_left _ hl)⟩, h4⟩, e⟩
theorem FB.arg {lo hi : Nat} {H : List Row} {a r : AV} (h : FB lo hi H a r) : ArgOwn H a r := h.tree.arg
theorem cnt_bound {α : Type} {c : List AV → Nat} {f : α → List AV} {sz : α → Nat} {K : Nat} (h : ∀ x, c (f x) ≤ K * (1 + sz x)) : ∀ xs : List α, cntAcc c (xs.map f) ≤ K * szList sz xs
  | [] => by simp [cntAcc]
  | x :: xs => by
    have h1 := cnt_bound h xs
    have h2 := h x
    simp only [List.map_cons, cntAcc, szList, sumOf, List.length_cons] at h1 ⊢
    have : K * (xs.length + 1 + (sz x + sumOf sz xs)) = K * (1 + sz x) + K * (xs.length + sumOf sz xs) := by rw [← Nat.mul_add]; congr 1; omega
    omega
end Go.AW
