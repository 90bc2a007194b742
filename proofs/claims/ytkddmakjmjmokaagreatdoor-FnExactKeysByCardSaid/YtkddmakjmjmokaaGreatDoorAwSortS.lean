/-
  AW: texts in rows of the call's own; a sort of the library's, taken over.
-/
import Derived.Test.YtkddmakjmjmokaaGreatDoorAwC
import Derived.Sort.EncStr
namespace Go.AW
open Go.RowKit (Below)
open Go.Sort (Holds putRow grow mapBlock onCells putCells)

/-- The cells of texts. -/
def tCells (zs : List (List UInt8)) : List (List AV) := zs.map fun z => [.val (.string (txt z))]
theorem tCells_len (zs : List (List UInt8)) : (tCells zs).length = zs.length := by simp [tCells]
theorem tCells_flat (zs : List (List UInt8)) : ∀ e ∈ tCells zs, e.all AV.flat = true := by
  intro e he
  obtain ⟨z, _, q⟩ := List.mem_map.1 he
  subst q; rfl
theorem tCells_one (zs : List (List UInt8)) : ∀ e ∈ tCells zs, e.length = 1 := by
  intro e he
  obtain ⟨z, _, q⟩ := List.mem_map.1 he
  subst q; rfl
theorem tCells_cell (zs : List (List UInt8)) : ∀ e ∈ tCells zs, e.all AV.cell = true := by
  intro e he
  obtain ⟨z, _, q⟩ := List.mem_map.1 he
  subst q; rfl
theorem tCells_get (zs : List (List UInt8)) (k : Nat) (h : k < zs.length) : (tCells zs)[k]? = some [.val (.string (txt zs[k]))] := by
  simp [tCells, h]
theorem tCells_app (a b : List (List UInt8)) : tCells a ++ tCells b = tCells (a ++ b) := by simp [tCells]
theorem tCells_single (x : List UInt8) : [[AV.val (Value.string (txt x))]] = tCells [x] := rfl
theorem tCells_set (zs : List (List UInt8)) (k : Nat) (x : List UInt8) : (tCells zs).set k [.val (.string (txt x))] = tCells (zs.set k x) := by simp [tCells, List.map_set]
theorem tCells_take (zs : List (List UInt8)) (k : Nat) : (tCells zs).take k = tCells (zs.take k) := by simp [tCells, List.map_take]
theorem tCells_drop (zs : List (List UInt8)) (k : Nat) : (tCells zs).drop k = tCells (zs.drop k) := by simp [tCells, List.map_drop]

/-- Texts in rising order. -/
def sortT (zs : List (List UInt8)) : List (List UInt8) := zs.mergeSort fun x y => decide (x ≤ y)
theorem sortT_len (zs : List (List UInt8)) : (sortT zs).length = zs.length := by unfold sortT; exact List.length_mergeSort _
theorem RepLL_txts {S : Sit} {zs : List (List UInt8)} {vs : List Value} : RepLL S (tCells zs) vs ↔ ∀ (j : Nat) (h : j < zs.length), vs[j]? = some (.string (txt zs[j])) := by
  rw [RepLL_iff (sz := 1) (tCells_one zs)]
  constructor
  · intro h j hj
    obtain ⟨v, h1, h2⟩ := h j _ (tCells_get zs j hj) 0 _ rfl
    simp only [Rep] at h2
    subst h2
    simpa using h1
  · intro h i e he j c hc
    have hi : i < zs.length := by
      have := (List.getElem?_eq_some_iff.1 he).1
      simpa [tCells] using this
    rw [tCells_get zs i hi] at he
    simp at he; subst he
    cases j with
    | zero => simp at hc; subst hc; exact ⟨_, by simpa using h i hi, by simp [Rep]⟩
    | succ j => simp at hc

theorem sort_ownT {P : Program} {f : FuncId} {E : TypeId}
    (hS : ∀ (blk off cap : Nat) (zs : List (List UInt8)) (w : World), Holds (Go.Proofs.encStr) w blk off zs.toArray → blk < w.heap.size → zs.length < 4611686018427387904 →
      Calls P f #[.slice (some ⟨blk, off, none⟩) zs.length cap] w fun e w' => e = .returned (.tuple #[]) ∧ ∃ n os, w' = grow (putRow (Go.Proofs.encStr) (Go.Sort.ahead w n) blk off (zs.mergeSort fun x y => decide (x ≤ y)).toArray) os)
    (h0 : ∀ (p : Option Addr) (cap : Nat) (w : World), Calls P f #[.slice p 0 cap] w fun e w' => e = .returned (.tuple #[]) ∧ w' = w)
    {zs : List (List UInt8)} {l : Nat} {H : List Row} (hl : H[l]? = some ⟨.ty E, 1, tCells zs⟩) (hlen : zs.length < 4611686018427387904) {K : AV → List Row → Prop} (hk : K (.tup []) (H.set l ⟨.ty E, 1, tCells (sortT zs)⟩)) :
    callSem P f [.own l zs.length] H K := by
  intro S w vals hm hgl hr
  simp only [RepL] at hr
  obtain ⟨x, r, e, rx, e2⟩ := hr
  subst e2
  have e' : vals = #[x] := by cases vals; simp at e; rw [e]
  subst e'
  simp only [Rep] at rx
  obtain ⟨_, i, q1, q2, q3⟩ := rx
  obtain ⟨k1, k2, k3, k4⟩ := hm.rows l i _ q1 hl
  have hil : i.len = zs.length := by rw [k1]; exact tCells_len zs
  by_cases hz : zs = []
  · subst hz
    have hx : ∃ p cap, x = .slice p 0 cap := by
      rcases q3 (by simpa using hil.symm) with q | ⟨_, p, q⟩
      · unfold sliceAt at q
        split at q
        · rw [hil] at q; exact ⟨_, _, q⟩
        · exact ⟨_, _, q⟩
      · exact ⟨_, _, q⟩
    obtain ⟨p, cap, hx⟩ := hx
    subst hx
    refine (h0 p cap w).mono ?_
    rintro e w' ⟨rfl, rfl⟩
    refine ⟨_, .tup [], S, H, rfl, Step.refl _ _, hm, by simp [Rep, RepL], ?_⟩
    have : H.set l ⟨.ty E, 1, tCells (sortT [])⟩ = H := by
      have := set_self hl
      simpa [sortT] using this
    rw [this] at hk; exact hk
  · have hpos : 0 < zs.length := List.length_pos_iff.2 hz
    have hne : tCells zs ≠ [] := by intro q; have := congrArg List.length q; simp [tCells] at this; exact hz this
    cases hb : i.blk with
    | none => rw [hb] at k4; exact absurd k4.1 hne
    | some b =>
      rw [hb] at k4
      have hx : x = .slice (some ⟨b, 0, none⟩) zs.length i.cap := by
        rcases q3 (by omega) with q | ⟨q, _⟩
        · rw [q]; simp only [sliceAt, hb, hil]
        · rw [hb] at q; cases q
      subst hx
      have k5 := k4.2
      rw [Stored.ty (E := E) rfl] at k5
      obtain ⟨c, j2, j3, j4, j5, j6⟩ := k5
      rw [RepLL_txts] at j3
      have hblt : b < w.heap.size := (Array.getElem?_eq_some_iff.1 j2).1
      have hH : Holds (Go.Proofs.encStr) w b 0 zs.toArray := by
        intro j hj
        have hj' : j < zs.length := by simpa using hj
        have hc : c[j]? = some (.string (txt zs[j])) := by simpa using j3 j hj'
        constructor
        · simp only [World.cell?, j2, Nat.zero_add, hc]
          simp [hj', txt]
        · simp [World.frozen?, j2]
      refine (hS b 0 i.cap zs w hH hblt hlen).mono ?_
      rintro e w' ⟨rfl, n, os, rfl⟩
      -- the row, then the new blocks
      have hsz : i.sz = 1 := k2
      have hcs : c.size = i.cap := by rw [j4, hsz, Nat.mul_one]
      have hset := Models.set (w' := putRow (Go.Proofs.encStr) (Go.Sort.ahead w n) b 0 (sortT zs).toArray) hm (r := ⟨.ty E, 1, tCells zs⟩) (.inl rfl) q1 hl hb (es' := tCells (sortT zs)) (c' := putCells (Go.Proofs.encStr) 0 (sortT zs).toArray c)
        (by rw [tCells_len, tCells_len, sortT_len])
        (by
          rw [RepLL_txts]
          intro j hj
          have hjz : j < zs.length := by rw [← sortT_len]; exact hj
          have hjc : j < c.size := by omega
          simp only [putCells, Array.toList_mapIdx, List.getElem?_mapIdx, Array.getElem?_toList, Array.getElem?_eq_getElem hjc, Option.map_some]
          rw [if_pos ⟨Nat.zero_le _, by simpa using hj⟩]
          simp [hj, txt])
        (tCells_one _) (by simp [putCells, j4])
        (by
          show (w.heap.modify b _)[b]? = _
          rw [Array.getElem?_modify, if_pos rfl, j2]; rfl)
        (fun q hq => by
          show (w.heap.modify b _)[q]? = _
          rw [Array.getElem?_modify, if_neg (Ne.symm hq)])
        (by show (w.heap.modify b _).size = _; simp) rfl rfl rfl
      have hB : Below (putRow (Go.Proofs.encStr) (Go.Sort.ahead w n) b 0 (sortT zs).toArray).heap.size (putRow (Go.Proofs.encStr) (Go.Sort.ahead w n) b 0 (sortT zs).toArray) (grow (putRow (Go.Proofs.encStr) (Go.Sort.ahead w n) b 0 (sortT zs).toArray) os) :=
        ⟨rfl, rfl, rfl, by simp [grow], fun q hq => by
          show (_ ++ os)[q]? = _
          rw [Array.getElem?_append_left hq]⟩
      exact ⟨_, .tup [], S, _, rfl, hset.2.trans (Step.below hB), hset.1.below hB, by simp [Rep, RepL], hk⟩

end Go.AW
