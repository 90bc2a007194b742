/-
 AW: texts in rows of the call's own; a sort of the library's, taken over.
-/
import Derived.Test.YtkddmakjmjmokaaAwC
import Derived.Sort.EncStr
import Derived.Laws.AppendOwn
namespace Go.AW
open List
open Go.RowKit (Below)
open Go.Sort (Holds putRow grow mapBlock onCells putCells)
open Go.Proofs (encStr)
set_option linter.unusedSimpArgs false
set_option linter.unusedVariables false
def ap_ (zs : List (List UInt8)) : List (List AV) := zs.map fun z => [.val (.string (txt z))]
theorem aH_ (zs : List (List UInt8)) : (ap_ zs).length = zs.length := by simp [ap_]
theorem er_ (zs : List (List UInt8)) : ∀ e ∈ ap_ zs, e.length = 1 := by
 intro e he
 obtain ⟨z, _, q⟩ := mem_map.1 he
 subst q; rfl
theorem cX_ (zs : List (List UInt8)) (k : Nat) (h : k < zs.length) : (ap_ zs)[k]? = some [.val (.string (txt zs[k]))] := by
 simp [ap_, h]
theorem h1_ (a b : List (List UInt8)) : ap_ a ++ ap_ b = ap_ (a ++ b) := by simp [ap_]
theorem id_ (zs : List (List UInt8)) (k : Nat) (x : List UInt8) : (ap_ zs).set k [.val (.string (txt x))] = ap_ (zs.set k x) := by simp [ap_, map_set]
theorem hD_ (zs : List (List UInt8)) (k : Nat) : (ap_ zs).take k = ap_ (zs.take k) := by simp [ap_, map_take]
def bn_ (zs : List (List UInt8)) : List (List UInt8) := zs.mergeSort fun x y => decide (x ≤ y)
theorem dh_ (zs : List (List UInt8)) : (bn_ zs).length = zs.length := by unfold bn_; exact length_mergeSort _
theorem ds_ {S : Sit} {zs : List (List UInt8)} {vs : List Value} : ai_ S (ap_ zs) vs ↔ ∀ (j : Nat) (h : j < zs.length), vs[j]? = some (.string (txt zs[j])) := by
 rw [aL_ (sz := 1) (er_ zs)]
 constructor
 ·intro h j hj
  obtain ⟨v, h1, h2⟩ := h j _ (cX_ zs j hj) 0 _ rfl
  simp only [Rep] at h2
  subst h2
  simpa using h1
 ·intro h i e he j c hc
  have hi : i < zs.length := by
   have := (List.getElem?_eq_some_iff.1 he).1
   simpa [ap_] using this
  rw [cX_ zs i hi] at he
  simp at he; subst he
  cases j with
  | zero => simp at hc; subst hc; exact ⟨_, by simpa using h i hi, by simp [Rep]⟩
  | succ j => simp at hc
theorem i3_ {P : Program} {f : FuncId} {E : TypeId}
 (hS : ∀ (blk off cap : Nat) (zs : List (List UInt8)) (w : World), Holds (Go.Proofs.encStr) w blk off zs.toArray → blk < w.heap.size → zs.length < 4611686018427387904 →
   Calls P f #[.slice (some ⟨blk, off, none⟩) zs.length cap] w fun e w' => e = .returned (.tuple #[]) ∧ ∃ n os, w' = grow (putRow (Go.Proofs.encStr) (Go.Sort.ahead w n) blk off (zs.mergeSort fun x y => decide (x ≤ y)).toArray) os)
 (h0 : ∀ (p : Option Addr) (cap : Nat) (w : World), Calls P f #[.slice p 0 cap] w fun e w' => e = .returned (.tuple #[]) ∧ w' = w)
 {zs : List (List UInt8)} {l : Nat} {H : List Row} (hl : H[l]? = some ⟨.ty E, 1, ap_ zs⟩) (hlen : zs.length < 4611686018427387904) {K : AV → List Row → Prop} (hk : K (.tup []) (H.set l ⟨.ty E, 1, ap_ (bn_ zs)⟩)) :
 callSem P f [.own l zs.length] H K := by
 intro S w vals hm hgl hr
 simp only [ac_] at hr
 obtain ⟨x, r, e, rx, e2⟩ := hr
 subst e2
 have e' : vals = #[x] := by cases vals; simp at e; rw [e]
 subst e'
 simp only [Rep] at rx
 obtain ⟨_, i, q1, q2, q3⟩ := rx
 obtain ⟨k1, k2, k3, k4⟩ := hm.rows l i _ q1 hl
 have hil : i.len = zs.length := by rw [k1]; exact aH_ zs
 by_cases hz : zs = []
 ·subst hz
  have hx : ∃ p cap, x = .slice p 0 cap := by
   rcases q3 (by simpa using hil.symm) with q | ⟨_, p, q⟩
   ·unfold sliceAt at q
    split at q
    ·rw [hil] at q; exact ⟨_, _, q⟩
    ·exact ⟨_, _, q⟩
   ·exact ⟨_, _, q⟩
  obtain ⟨p, cap, hx⟩ := hx
  subst hx
  refine (h0 p cap w).mono ?_
  rintro e w' ⟨rfl, rfl⟩
  refine ⟨_, .tup [], S, H, rfl, ay_.refl _ _, hm, by simp [Rep, ac_], ?_⟩
  have : H.set l ⟨.ty E, 1, ap_ (bn_ [])⟩ = H := by
   have := c8_ hl
   simpa [bn_] using this
  rw [this] at hk; exact hk
 ·have hpos : 0 < zs.length := length_pos_iff.2 hz
  have hne : ap_ zs ≠ [] := by intro q; have := congrArg List.length q; simp [ap_] at this; exact hz this
  cases hb : i.blk with
  | none => rw [hb] at k4; exact absurd k4.1 hne
  | some b =>
   rw [hb] at k4
   have hx : x = .slice (some ⟨b, 0, none⟩) zs.length i.cap := by
    rcases q3 (by omega) with q | ⟨q, _⟩
    ·rw [q]; simp only [sliceAt, hb, hil]
    ·rw [hb] at q; cases q
   subst hx
   have k5 := k4.2
   rw [aI_.ty (E := E) rfl] at k5
   obtain ⟨c, j2, j3, j4, j5, j6⟩ := k5
   rw [ds_] at j3
   have hblt : b < w.heap.size := (Array.getElem?_eq_some_iff.1 j2).1
   have hH : Holds (Go.Proofs.encStr) w b 0 zs.toArray := by
    intro j hj
    have hj' : j < zs.length := by simpa using hj
    have hc : c[j]? = some (.string (txt zs[j])) := by simpa using j3 j hj'
    constructor
    ·simp only [World.cell?, j2, Nat.zero_add, hc]
     simp [hj', txt]
    ·simp [World.frozen?, j2]
   refine (hS b 0 i.cap zs w hH hblt hlen).mono ?_
   rintro e w' ⟨rfl, n, os, rfl⟩
   have hsz : i.sz = 1 := k2
   have hcs : c.size = i.cap := by rw [j4, hsz, Nat.mul_one]
   have hset := ab_.set (w' := putRow (Go.Proofs.encStr) (Go.Sort.ahead w n) b 0 (bn_ zs).toArray) hm (r := ⟨.ty E, 1, ap_ zs⟩) (.inl rfl) q1 hl hb (es' := ap_ (bn_ zs)) (c' := putCells (Go.Proofs.encStr) 0 (bn_ zs).toArray c)
    (by rw [aH_, aH_, dh_])
    (by
      rw [ds_]
      intro j hj
      have hjz : j < zs.length := by rw [← dh_]; exact hj
      have hjc : j < c.size := by omega
      simp only [putCells, Array.toList_mapIdx, getElem?_mapIdx, Array.getElem?_toList, Array.getElem?_eq_getElem hjc, Option.map_some]
      rw [if_pos ⟨Nat.zero_le _, by simpa using hj⟩]
      simp [hj, txt])
    (er_ _) (by simp [putCells, j4])
    (by
      show (w.heap.modify b _)[b]? = _
      rw [Array.getElem?_modify, if_pos rfl, j2]; rfl)
    (fun q hq => by
      show (w.heap.modify b _)[q]? = _
      rw [Array.getElem?_modify, if_neg (Ne.symm hq)])
    (by show (w.heap.modify b _).size = _; simp) rfl rfl rfl
   have hB : Below (putRow (Go.Proofs.encStr) (Go.Sort.ahead w n) b 0 (bn_ zs).toArray).heap.size (putRow (Go.Proofs.encStr) (Go.Sort.ahead w n) b 0 (bn_ zs).toArray) (grow (putRow (Go.Proofs.encStr) (Go.Sort.ahead w n) b 0 (bn_ zs).toArray) os) :=
    ⟨rfl, rfl, rfl, by simp [grow], fun q hq => by
     show (_ ++ os)[q]? = _
     rw [Array.getElem?_append_left hq]⟩
   exact ⟨_, .tup [], S, _, rfl, hset.2.trans (ay_.below hB), hset.1.below hB, by simp [Rep, ac_], hk⟩
theorem ab_.takeOver {S : Sit} {h : List Row} {w w' : World} (m : ab_ S h w) (hB : Below w.heap.size w w') {gb : Nat} (hge : w.heap.size ≤ gb) {E : TypeId} {sz cap : Nat} {es : List (List AV)} {c : Array Value}
 (hrep : ai_ S es c.toList) (hlen : ∀ e ∈ es, e.length = sz) (hsize : c.size = cap * sz) (hcap : es.length ≤ cap) (hmax : cap ≤ maxLen) (hcell : w'.heap[gb]? = some (.cells c E (0, 0))) :
 ab_ { imm := S.imm, rows := S.rows ++ [⟨es.length, some gb, cap, sz⟩] } (h ++ [⟨E, sz, es⟩]) w' ∧
 ay_ S w { imm := S.imm, rows := S.rows ++ [⟨es.length, some gb, cap, sz⟩] } w' := by
 have hle := S.le_push ⟨es.length, some gb, cap, sz⟩
 have himm : S.imm gb = none := by
  cases q : S.imm gb with
  | none => rfl
  | some d => have := m.immLt q; omega
 have hrow : ∀ (l : Nat) (i : aV_), (S.rows ++ [⟨es.length, some gb, cap, sz⟩])[l]? = some i → S.rows[l]? = some i ∨ (l = S.rows.length ∧ i = ⟨es.length, some gb, cap, sz⟩) := by
  intro l i q
  by_cases hl : l < S.rows.length
  ·rw [getElem?_append_left hl] at q; exact .inl q
  ·rw [getElem?_append_right (by omega)] at q
   have : l - S.rows.length = 0 := by
    by_cases z : l - S.rows.length = 0
    ·exact z
    ·obtain ⟨k, hk⟩ := Nat.exists_eq_succ_of_ne_zero z
     rw [hk] at q; simp at q
   rw [this] at q
   simp at q
   exact .inr ⟨by omega, q.symm⟩
 have hblk : ∀ (l : Nat) (i : aV_), S.rows[l]? = some i → i.blk ≠ some gb := by
  intro l i q e
  have := m.ownLt ⟨l, i, q, e⟩
  omega
 refine ⟨⟨fun b d q => ?_, by simp [m.len], fun l i r h1 h2 => ?_, fun l l' i i' b h1 h2 h3 h4 => ?_⟩, ⟨hle, hB.os, hB.tape, hB.output, hB.size, fun b hb _ => hB.block b hb, fun b q => ?_, fun b d q => .inl q⟩⟩
 ·rw [hB.block b (m.immLt q)]; exact m.imm b d q
 ·rcases hrow l i h1 with q | ⟨q1, q2⟩
  ·have hl : l < h.length := by
    rw [← m.len]; rcases List.getElem?_eq_some_iff.1 q with ⟨q, _⟩; exact q
   rw [getElem?_append_left hl] at h2
   obtain ⟨k1, k2, k3, k4⟩ := m.rows l i r q h2
   refine ⟨k1, k2, k3, ?_⟩
   cases hb : i.blk with
   | none => rw [hb] at k4; exact k4
   | some b =>
    rw [hb] at k4
    exact ⟨k4.1, k4.2.le hle (hB.block b (m.ownLt ⟨l, i, q, hb⟩))⟩
  ·subst q1 q2
   rw [m.len, getElem?_append_right (Nat.le_refl _)] at h2
   simp at h2
   subst h2
   exact ⟨rfl, rfl, hlen, himm, c, hcell, ai_.up hle _ _ hrep, hsize, hcap, hmax⟩
 ·rcases hrow l i h1 with q | ⟨q1, q2⟩ <;> rcases hrow l' i' h2 with q' | ⟨q1', q2'⟩
  ·exact m.one l l' i i' b q q' h3 h4
  ·subst q2'; simp at h4; subst h4; exact absurd h3 (hblk l i q)
  ·subst q2; simp at h3; subst h3; exact absurd h4 (hblk l' i' q')
  ·omega
 ·obtain ⟨l, i, q1, q2⟩ := q
  rcases hrow l i q1 with q | ⟨_, q⟩
  ·exact .inl ⟨l, i, q, q2⟩
  ·subst q; simp at q2; subst q2; exact .inr hge
theorem hj_ {P : Program} {f g : FuncId} {E EB : TypeId}
 (hC : ∀ (Bs : Nat) (sv : Value) (zs : List (List UInt8)) (w : World), zs.length ≤ 1048576 → Bs < w.heap.size → w.cell? ⟨Bs, 0, none⟩ = some sv →
   ((∃ p cap, sv = .slice p 0 cap ∧ zs = []) ∨ ∃ b off cap, sv = .slice (some ⟨b, off, none⟩) zs.length cap ∧ b < w.heap.size ∧ ∀ j, j < zs.length → w.cell? ⟨b, off + j, none⟩ = some (encStr (zs[j]?.getD []))) →
   Calls P f #[.func (.func g) #[] #[.pointer (some ⟨Bs, 0, none⟩)]] w fun e W' => ∃ v, e = .returned v ∧ W'.ownsRow w.heap.size E 1 v zs.length (zs.map encStr) ∧ (v = .slice none 0 0 ↔ zs = []) ∧ Below w.heap.size w W')
 {zs : List (List UInt8)} {l : Nat} {H : List Row} (hl : H[l]? = some ⟨.ty EB, 1, [[.list 0 1 (ap_ zs)]]⟩) (hlen : zs.length ≤ 1048576) {K : AV → List Row → Prop} (hk : K (.own H.length zs.length) (H ++ [⟨.ty E, 1, ap_ zs⟩])) :
 callSem P f [.fn g [] [.ptr l 1 0 0]] H K := by
 intro S w vals hm hgl hr
 simp only [ac_] at hr
 obtain ⟨x, r, e, rx, e2⟩ := hr
 subst e2
 have e' : vals = #[x] := by cases vals; simp at e; rw [e]
 subst e'
 simp only [Rep] at rx
 obtain ⟨vs, us, rfl, r1, r2⟩ := rx
 simp only [ac_] at r1 r2
 obtain ⟨pv, r3, e3, rp, e4⟩ := r2
 subst e4
 have ev : vs = #[] := by cases vs; simp at r1; rw [r1]
 have eu : us = #[pv] := by cases us; simp at e3; rw [e3]
 subst ev eu
 simp only [Rep] at rp
 obtain ⟨_, i, q1, q2, q3⟩ := rp
 obtain ⟨k1, k2, k3, k4⟩ := hm.rows l i _ q1 hl
 obtain ⟨b, hb, hp⟩ := q3 (by rw [k1]; rfl)
 rw [hb] at k4
 obtain ⟨_, k5⟩ := k4
 rw [aI_.ty (E := EB) rfl] at k5
 obtain ⟨c, j2, j3, j4, j5, j6⟩ := k5
 have hp' : pv = .pointer (some ⟨b, 0, none⟩) := by rw [hp]; simp
 subst hp'
 rw [aL_ (sz := 1) (fun e he => by simp at he; subst he; rfl)] at j3
 obtain ⟨sv, hsv, rsv⟩ := j3 0 _ rfl 0 _ rfl
 have hsv' : c[0]? = some sv := by simpa using hsv
 have hcell : w.cell? ⟨b, 0, none⟩ = some sv := by
  simp only [World.cell?, j2, hsv']
  rfl
 have hblt : b < w.heap.size := (Array.getElem?_eq_some_iff.1 j2).1
 have hI : (∃ p cap, sv = .slice p 0 cap ∧ zs = []) ∨ ∃ b off cap, sv = .slice (some ⟨b, off, none⟩) zs.length cap ∧ b < w.heap.size ∧ ∀ j, j < zs.length → w.cell? ⟨b, off + j, none⟩ = some (encStr (zs[j]?.getD [])) := by
  simp only [Rep] at rsv
  rcases rsv with ⟨z1, _, p, cc, z2⟩ | ⟨b', off, cap, c', z1, z2, z3, z4, z5, z6, z7⟩
  ·have : zs = [] := by simpa [ap_] using z1
   exact .inl ⟨p, cc, z2, this⟩
  ·rw [aH_] at z1
   obtain ⟨E', fr, hbk⟩ := hm.imm b' c' z3
   rw [ds_] at z7
   refine .inr ⟨b', off, cap, z1, hm.immLt z3, fun j hj => ?_⟩
   have h7 := z7 j hj
   rw [getElem?_drop] at h7
   have h8 : c'[off + j]? = some (.string (txt zs[j])) := by simpa using h7
   simp only [World.cell?, hbk, h8]
   rw [getElem?_eq_getElem hj]
   rfl
 refine (hC b sv zs w hlen hblt hcell hI).mono ?_
 rintro e w' ⟨v, rfl, ⟨hl1, hrow⟩, hnil, hB⟩
 by_cases hz : zs = []
 ·subst hz
  have hv := hnil.2 rfl
  subst hv
  have hn := ab_.newNil (hm.below hB) (E := .ty E) (sz := 1)
  refine ⟨_, .own H.length 0, _, _, rfl, (ay_.below hB).trans hn.2, hn.1, ?_, hk⟩
  simp only [Rep]
  refine ⟨⟨_, _, _, rfl⟩, ⟨0, none, 0, 1⟩, ?_, Nat.le_refl _, fun _ => .inl rfl⟩
  rw [← hm.len]; simp
 ·rcases hrow with ⟨h1, _⟩ | ⟨gb, cap, cur, rfl, hge, hcl, hcap, hmax, hsz, htk⟩
  ·exact absurd (hnil.1 h1) hz
  ·have ha := ab_.takeOver hm hB hge (es := ap_ zs) (sz := 1) (cap := cap) (c := cur) (E := E) (by
    rw [ds_]
    intro j hj
    have h5 := congrArg (fun q => q[j]?) htk
    simp only [getElem?_take, Nat.mul_one, hj, if_true, getElem?_map, getElem?_eq_getElem hj, Option.map_some] at h5
    exact h5) (er_ _) hsz (by rw [aH_]; exact hcap) hmax hcl
   refine ⟨_, .own H.length zs.length, _, _, rfl, ha.2, ha.1, ?_, hk⟩
   simp only [Rep]
   refine ⟨⟨_, _, _, rfl⟩, ⟨(ap_ zs).length, some gb, cap, 1⟩, ?_, ?_, fun _ => .inl ?_⟩
   ·rw [← hm.len]; simp
   ·show zs.length ≤ (ap_ zs).length
    rw [aH_]; exact Nat.le_refl _
   ·simp only [sliceAt, aH_]
def aw_ {α : Type} [DecidableEq α] : List α → List α
 | [] => []
 | [x] => [x]
 | x :: y :: r => if x = y then aw_ (y :: r) else x :: aw_ (y :: r)
section
variable {α : Type} [DecidableEq α]
theorem ex_ : ∀ zs : List α, (aw_ zs).length ≤ zs.length
 | [] => Nat.le_refl _
 | [x] => Nat.le_refl _
 | x :: y :: r => by
  have := ex_ (y :: r)
  simp only [aw_]
  split <;> simp only [lc_] at * <;> omega
theorem d7_ : ∀ (x : α) (r : List α), ∃ r', aw_ (x :: r) = x :: r'
 | x, [] => ⟨[], rfl⟩
 | x, y :: r => by
  simp only [aw_]
  by_cases h : x = y
  ·subst h; rw [if_pos rfl]; exact d7_ x r
  ·rw [if_neg h]; exact ⟨_, rfl⟩
theorem eY_ (zs : List α) (a : Nat) (h0 : 0 < a) (h : a < zs.length) : aw_ (zs.drop (a - 1)) = if zs[a - 1] = zs[a] then aw_ (zs.drop a) else zs[a - 1] :: aw_ (zs.drop a) := by
 rw [drop_eq_getElem_cons (show a - 1 < zs.length by omega)]
 rw [show a - 1 + 1 = a by omega, drop_eq_getElem_cons h]
 rfl
theorem ez_ (zs : List α) (h : 0 < zs.length) : aw_ (zs.drop (zs.length - 1)) = [zs[zs.length - 1]] := by
 rw [drop_eq_getElem_cons (by omega), drop_eq_nil_of_le (by omega)]; rfl
theorem ed_ : ∀ zs : List α, zs.Nodup → aw_ zs = zs
 | [], _ => rfl
 | [x], _ => rfl
 | x :: y :: r, h => by
  obtain ⟨h1, h2⟩ := nodup_cons.1 h
  have h3 : x ≠ y := fun e => h1 (by rw [e]; simp)
  rw [aw_, if_neg h3, ed_ (y :: r) h2]
theorem ei_ (le : α → α → Prop) (anti : ∀ a b, le a b → le b a → a = b) : ∀ zs : List α, zs.Pairwise le → (aw_ zs).length = zs.length → zs.Nodup
 | [], _, _ => nodup_nil
 | [x], _, _ => by simp
 | x :: y :: r, h, hl => by
  obtain ⟨h1, h2⟩ := pairwise_cons.1 h
  have hm := ex_ (y :: r)
  rw [aw_] at hl
  split at hl
  ·simp only [lc_] at hl hm; omega
  ·rename_i hne
   have hl2 : (aw_ (y :: r)).length = (y :: r).length := by simp only [lc_] at hl ⊢; omega
   refine nodup_cons.2 ⟨fun hx => ?_, ei_ le anti (y :: r) h2 hl2⟩
   rcases mem_cons.1 hx with e | e
   ·exact hne e
   ·exact hne (anti _ _ (h1 y (by simp)) ((pairwise_cons.1 h2).1 x e))
end
theorem i6_ (a b : List UInt8) : (decide (a ≤ b) || decide (b ≤ a)) = true := by
 rw [Bool.or_eq_true, decide_eq_true_eq, decide_eq_true_eq]; exact List.le_total a b
theorem gO_ (zs : List (List UInt8)) : (bn_ zs).Pairwise (fun x y => x ≤ y) := by
 have := pairwise_mergeSort (le := fun x y : List UInt8 => decide (x ≤ y)) (fun a b c h1 h2 => by
  rw [decide_eq_true_eq] at *; exact List.le_trans h1 h2) i6_ zs
 exact this.imp fun h => by simpa using h
theorem iW_ (zs : List (List UInt8)) : decide ((aw_ (bn_ zs)).length = zs.length) = decide zs.Nodup := by
 rw [decide_eq_decide]
 have hp : (bn_ zs).Perm zs := mergeSort_perm zs _
 constructor
 ·intro h
  refine hp.nodup_iff.1 (ei_ (fun x y => x ≤ y) (fun a b h1 h2 => List.le_antisymm h1 h2) _ (gO_ zs) ?_)
  rw [h, dh_]
 ·intro h
  rw [ed_ _ (hp.nodup_iff.2 h), dh_]
end Go.AW
