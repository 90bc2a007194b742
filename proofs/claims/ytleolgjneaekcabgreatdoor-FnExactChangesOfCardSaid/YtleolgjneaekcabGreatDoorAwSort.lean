/-
  AW, part 30: numbers in rows of the call's own; a sort of the library's, taken over.
-/
import Derived.Test.YtleolgjneaekcabGreatDoorAwFrz
import Derived.Sort.Grow
namespace Go.AW
open Go.RowKit (Below)
open Go.Sort (Holds putRow grow mapBlock onCells putCells)

/-- The cells of numbers. -/
def iCells (zs : List Int) : List (List AV) := zs.map fun z => [.val (.int .i64 z)]
theorem iCells_len (zs : List Int) : (iCells zs).length = zs.length := by simp [iCells]
theorem iCells_flat (zs : List Int) : ∀ e ∈ iCells zs, e.all AV.flat = true := by
  intro e he
  obtain ⟨z, _, q⟩ := List.mem_map.1 he
  subst q; rfl
theorem iCells_one (zs : List Int) : ∀ e ∈ iCells zs, e.length = 1 := by
  intro e he
  obtain ⟨z, _, q⟩ := List.mem_map.1 he
  subst q; rfl
theorem iCells_get (zs : List Int) (k : Nat) (h : k < zs.length) : (iCells zs)[k]? = some [.val (.int .i64 zs[k])] := by
  simp [iCells, h]
theorem iCells_app (a b : List Int) : iCells a ++ iCells b = iCells (a ++ b) := by simp [iCells]
theorem iCells_single (x : Int) : [[AV.val (Value.int .i64 x)]] = iCells [x] := rfl
theorem iCells_set (zs : List Int) (k : Nat) (x : Int) : (iCells zs).set k [.val (.int .i64 x)] = iCells (zs.set k x) := by simp [iCells, List.map_set]
theorem iCells_take (zs : List Int) (k : Nat) : (iCells zs).take k = iCells (zs.take k) := by simp [iCells, List.map_take]
theorem iCells_drop (zs : List Int) (k : Nat) : (iCells zs).drop k = iCells (zs.drop k) := by simp [iCells, List.map_drop]

/-- Numbers in rising order. -/
def sortI (zs : List Int) : List Int := zs.mergeSort fun x y => decide (x ≤ y)
theorem sortI_len (zs : List Int) : (sortI zs).length = zs.length := by unfold sortI; exact List.length_mergeSort _
theorem RepLL_ints {S : Sit} {zs : List Int} {vs : List Value} : RepLL S (iCells zs) vs ↔ ∀ (j : Nat) (h : j < zs.length), vs[j]? = some (.int .i64 zs[j]) := by
  rw [RepLL_iff (sz := 1) (iCells_one zs)]
  constructor
  · intro h j hj
    obtain ⟨v, h1, h2⟩ := h j _ (iCells_get zs j hj) 0 _ rfl
    simp only [Rep] at h2
    subst h2
    simpa using h1
  · intro h i e he j c hc
    have hi : i < zs.length := by
      have := (List.getElem?_eq_some_iff.1 he).1
      simpa [iCells] using this
    rw [iCells_get zs i hi] at he
    simp at he; subst he
    cases j with
    | zero => simp at hc; subst hc; exact ⟨_, by simpa using h i hi, by simp [Rep]⟩
    | succ j => simp at hc

theorem sort_own {P : Program} {f : FuncId} {E : TypeId}
    (hS : ∀ (blk off cap : Nat) (zs : List Int) (w : World), Holds (Value.int .i64) w blk off zs.toArray → blk < w.heap.size → zs.length < 4611686018427387904 →
      Calls P f #[.slice (some ⟨blk, off, none⟩) zs.length cap] w fun e w' => e = .returned (.tuple #[]) ∧ ∃ n os, w' = grow (putRow (Value.int .i64) (Go.Sort.ahead w n) blk off (zs.mergeSort fun x y => decide (x ≤ y)).toArray) os)
    (h0 : ∀ (p : Option Addr) (cap : Nat) (w : World), Calls P f #[.slice p 0 cap] w fun e w' => e = .returned (.tuple #[]) ∧ w' = w)
    {zs : List Int} {l : Nat} {H : List Row} (hl : H[l]? = some ⟨.ty E, 1, iCells zs⟩) (hlen : zs.length < 4611686018427387904) {K : AV → List Row → Prop} (hk : K (.tup []) (H.set l ⟨.ty E, 1, iCells (sortI zs)⟩)) :
    callSem P f [.own l zs.length] H K := by
  intro S w vals hm hgl hr
  simp only [RepL] at hr
  obtain ⟨x, r, e, rx, e2⟩ := hr
  subst e2
  have e' : vals = #[x] := by cases vals; simp at e; rw [e]
  subst e'
  simp only [Rep] at rx
  obtain ⟨_, i, q1, q2, q3⟩ := rx
  obtain ⟨k1, k2, k3, k4⟩ := hm.rows l i _ q1 hl
  have hil : i.len = zs.length := by rw [k1]; exact iCells_len zs
  by_cases hz : zs = []
  · subst hz
    have hx : ∃ p cap, x = .slice p 0 cap := by
      rcases q3 (by simpa using hil.symm) with q | ⟨_, p, q⟩
      · unfold sliceAt at q
        split at q
        · rw [hil] at q; exact ⟨_, _, q⟩
        · exact ⟨_, _, q⟩
      · exact ⟨_, _, q⟩
    obtain ⟨p, cap, hx⟩ := hx
    subst hx
    refine (h0 p cap w).mono ?_
    rintro e w' ⟨rfl, rfl⟩
    refine ⟨_, .tup [], S, H, rfl, Step.refl _ _, hm, by simp [Rep, RepL], ?_⟩
    have : H.set l ⟨.ty E, 1, iCells (sortI [])⟩ = H := by
      have := set_self hl
      simpa [sortI] using this
    rw [this] at hk; exact hk
  · have hpos : 0 < zs.length := List.length_pos_iff.2 hz
    have hne : iCells zs ≠ [] := by intro q; have := congrArg List.length q; simp [iCells] at this; exact hz this
    cases hb : i.blk with
    | none => rw [hb] at k4; exact absurd k4.1 hne
    | some b =>
      rw [hb] at k4
      have hx : x = .slice (some ⟨b, 0, none⟩) zs.length i.cap := by
        rcases q3 (by omega) with q | ⟨q, _⟩
        · rw [q]; simp only [sliceAt, hb, hil]
        · rw [hb] at q; cases q
      subst hx
      have k5 := k4.2
      rw [Stored.ty (E := E) rfl] at k5
      obtain ⟨c, j2, j3, j4, j5, j6⟩ := k5
      rw [RepLL_ints] at j3
      have hblt : b < w.heap.size := (Array.getElem?_eq_some_iff.1 j2).1
      have hH : Holds (Value.int .i64) w b 0 zs.toArray := by
        intro j hj
        have hj' : j < zs.length := by simpa using hj
        have hc : c[j]? = some (.int .i64 zs[j]) := by simpa using j3 j hj'
        constructor
        · simp only [World.cell?, j2, Nat.zero_add, hc]
          simp [hj']
        · simp [World.frozen?, j2]
      refine (hS b 0 i.cap zs w hH hblt hlen).mono ?_
      rintro e w' ⟨rfl, n, os, rfl⟩
      -- the row, then the new blocks
      have hsz : i.sz = 1 := k2
      have hcs : c.size = i.cap := by rw [j4, hsz, Nat.mul_one]
      have hset := Models.set (w' := putRow (Value.int .i64) (Go.Sort.ahead w n) b 0 (sortI zs).toArray) hm (r := ⟨.ty E, 1, iCells zs⟩) rfl q1 hl hb (es' := iCells (sortI zs)) (c' := putCells (Value.int .i64) 0 (sortI zs).toArray c)
        (by rw [iCells_len, iCells_len, sortI_len])
        (by
          rw [RepLL_ints]
          intro j hj
          have hjz : j < zs.length := by rw [← sortI_len]; exact hj
          have hjc : j < c.size := by omega
          simp only [putCells, Array.toList_mapIdx, List.getElem?_mapIdx, Array.getElem?_toList, Array.getElem?_eq_getElem hjc, Option.map_some]
          rw [if_pos ⟨Nat.zero_le _, by simpa using hj⟩]
          simp [hj])
        (iCells_one _) (by simp [putCells, j4])
        (by
          show (w.heap.modify b _)[b]? = _
          rw [Array.getElem?_modify, if_pos rfl, j2]; rfl)
        (fun q hq => by
          show (w.heap.modify b _)[q]? = _
          rw [Array.getElem?_modify, if_neg (Ne.symm hq)])
        (by show (w.heap.modify b _).size = _; simp) rfl rfl rfl
      have hB : Below (putRow (Value.int .i64) (Go.Sort.ahead w n) b 0 (sortI zs).toArray).heap.size (putRow (Value.int .i64) (Go.Sort.ahead w n) b 0 (sortI zs).toArray) (grow (putRow (Value.int .i64) (Go.Sort.ahead w n) b 0 (sortI zs).toArray) os) :=
        ⟨rfl, rfl, rfl, by simp [grow], fun q hq => by
          show (_ ++ os)[q]? = _
          rw [Array.getElem?_append_left hq]⟩
      exact ⟨_, .tup [], S, _, rfl, hset.2.trans (Step.below hB), hset.1.below hB, by simp [Rep, RepL], hk⟩

theorem Own.val {H : List Row} {n : Nat} {a : AV} {v : Value} {fs : List Nat} (h : Own H n a (.val v) fs) : a = .val v ∧ fs = [] := by
  cases n with
  | zero => exact h.elim
  | succ n =>
    cases a with
    | val u =>
      obtain ⟨h1, h2 | ⟨_, _, h2⟩⟩ := h
      · injection h2 with q; subst q; exact ⟨rfl, h1⟩
      · cases h2
    | own l k => obtain ⟨_, _, _, _, _, _, q, _⟩ := h; cases q
    | sub l k lo hi => obtain ⟨_, _, _, _, _, _, q, _⟩ := h; cases q
    | agg cs => obtain ⟨_, _, q⟩ := h; cases q
    | tup cs => obtain ⟨_, _, q⟩ := h; cases q
    | _ => exact h.elim
theorem OwnLL_ints {H : List Row} {n : Nat} : ∀ {zs : List Int} {es : List (List AV)} {fs : List Nat}, OwnLL (Own H n) es (iCells zs) fs → es = iCells zs ∧ fs = []
  | [], es, fs, h => by
    cases es with
    | nil => exact ⟨rfl, h.2⟩
    | cons e es => obtain ⟨_, _, _, _, q, _⟩ := h; cases q
  | z :: zs, es, fs, h => by
    cases es with
    | nil => obtain ⟨q, _⟩ := h; cases q
    | cons e es =>
      obtain ⟨d, ds, f, f', q, e2, h1, h2⟩ := h
      simp only [iCells, List.map_cons, List.cons.injEq] at q
      obtain ⟨q1, q2⟩ := q
      subst q1 q2
      obtain ⟨i1, i2⟩ := OwnLL_ints (zs := zs) h2
      subst i1 i2
      cases e with
      | nil => obtain ⟨q, _⟩ := h1; cases q
      | cons c cs =>
        obtain ⟨d', ds', g, g', q, e3, h3, h4⟩ := h1
        simp only [List.cons.injEq] at q
        obtain ⟨q1, q2⟩ := q
        subst q1 q2
        obtain ⟨rfl, rfl⟩ := Own.val h3
        cases cs with
        | nil =>
          obtain ⟨_, rfl⟩ := h4
          subst e3 e2
          exact ⟨rfl, rfl⟩
        | cons c' cs' => obtain ⟨_, _, _, _, q, _⟩ := h4; cases q
theorem OwnLL_ofInts {H : List Row} {n : Nat} : ∀ (zs : List Int), OwnLL (Own H (n + 1)) (iCells zs) (iCells zs) []
  | [] => ⟨rfl, rfl⟩
  | z :: zs => ⟨_, _, [], [], rfl, rfl, ⟨_, _, [], [], rfl, rfl, ⟨rfl, .inl rfl⟩, ⟨rfl, rfl⟩⟩, OwnLL_ofInts zs⟩
/-- A new row of numbers. -/
theorem Fresh.ofInts {base l : Nat} {H : List Row} {E : Tag} {zs : List Int} (hl : H[l]? = some ⟨E, 1, iCells zs⟩) (hb : base ≤ l) : Fresh base H (.own l zs.length) (.list 0 1 (iCells zs)) :=
  ⟨2, [l], ⟨_, iCells zs, [], hl, iCells_len zs, OwnLL_ofInts zs, rfl, rfl⟩, by simp, by simpa using hb⟩
theorem Fresh.ints {base l k : Nat} {H : List Row} {zs : List Int} (h : Fresh base H (.own l k) (.list 0 1 (iCells zs))) : base ≤ l ∧ k = zs.length ∧ ∃ E, H[l]? = some ⟨E, 1, iCells zs⟩ := by
  obtain ⟨n, fs, ho, _, hge⟩ := h
  cases n with
  | zero => exact ho.elim
  | succ n =>
    obtain ⟨row, es, f, h1, h2, h3, h4, h5⟩ := ho
    subst h5
    injection h4 with _ q1 q2
    subst q2
    obtain ⟨i1, _⟩ := OwnLL_ints h3
    refine ⟨hge l (by simp), by rw [← h2, i1, iCells_len], row.E, ?_⟩
    rw [h1, q1, ← i1]
theorem fold_set (out : List Int) (x : Int) : iCells out ++ [[AV.val (Value.int .i64 x)]] = iCells (out ++ [x]) := iCells_app out [x]
theorem all_none {p : List AV → Prop} : (∀ e ∈ ([] : List (List AV)), p e) = True := by simp
attribute [go_sem] iCells_len fold_set all_none
end Go.AW
