/-
 A small program logic over abstract values, proved sound over the model: what a function's code gives for data, without worlds and cells. Nothing of any one program. No conditions.
-/
import Derived.Test.YthahmhkbcdpkjabGreatDoorAwA
import Derived.Calls
import Derived.Orders
import Derived.Deep.LoopGhost
import Derived.Laws.Cells
import Derived.Laws.CopyRow
import Derived.Laws.AppendOwn
import Derived.Laws.MakeOwn
import Derived.Laws.Entries
import Derived.ChangeKeysEq
import Derived.Lib.ItoaNum
import Derived.Laws.IdiomStrings
import Derived.Laws.StructEq
import Derived.Lib.Overlaps
import Derived.Below
import Derived.Lib.AppendZerosOnto
import Derived.Laws.Strings
import GoSem.ClaimChange
import Derived.ChangeArms
import Derived.Attr
set_option linter.unusedVariables false
set_option linter.unusedSimpArgs false
set_option linter.unusedSectionVars false
namespace Go.AW
open List
open Go.RowKit (Below)
open Go.RowKit
section
variable {P : Program} {S : Sit} {h : List Row} {w : World} {N : Nat} {t : Nat → AV} {a : Act} {o : Oper} {K : AV → List Row → Prop} {next : Act → World → Prop} {Q : Exit → Act → World → Prop}
theorem tL_ {c : Call} {x : Operand} {ty e : TypeId} {p : Option Addr} {n cp : Nat} (hop : o.op = .call c) (hc : c.callee = .builtin .cap) (ha : c.args = #[x]) (ht : c.argTypes = #[ty]) (hu : P.underlying ty = some (.slice e)) (hx : a.eval x = .slice p n cp) :
 (execOp a.eval o).run P w = .ok (.value (.int .i64 cp)) w := by
 simp [execOp, hop, resolve, hc, ha, ht, invoke, builtin, Builtin.cap_, run_underlying hu, hx, goInt]
theorem r9_ {c : Call} {x : Operand} {ty e : TypeId} (hop : o.op = .call c) (hc : c.callee = .builtin .cap) (ha : c.args = #[x]) (ht : c.argTypes = #[ty]) (hu : P.underlying ty = some (.slice e)) (hm : ae_ S h w) (hr : Rel S N t a)
 (hxo : aj_ N x = true) (hw : aZ_ P t h K (.capSl x)) (hh : bM_ S w a o K next) : o.wp P a w next Q := by
 have rx := hr.eval hxo
 have fin : ∀ (p : Option Addr) (n cp : Nat), a.eval x = .slice p n cp → K (.val (.int .i64 cp)) h → o.wp P a w next Q := fun p n cp hx hk =>
  aW_ (tL_ hop hc ha ht hu hx) (hh _ _ S h w (a8_.refl _ _) hm (by simp [Rep]) hk)
 simp only [aZ_] at hw
 split at hw
 ·rename_i l n q1
  rw [q1] at rx
  simp only [Rep] at rx
  obtain ⟨_, i, e1, e2, e3⟩ := rx
  split at hw
  ·rename_i r q2
   obtain ⟨w1, w2, w3⟩ := hw
   obtain ⟨k1, k2, k3, k4⟩ := hm.rows l i r e1 q2
   have hlen : n = i.len := by rw [k1, w1]
   rcases e3 hlen with q | ⟨hb, p, q⟩
   ·unfold sliceAt at q
    cases hblk : i.blk with
    | none =>
     rw [hblk] at q k4
     have hn0 : n = 0 := by rw [← w1, k4.1]; rfl
     exact fin _ _ _ q (w3 0 (by omega) (fun _ => hn0.symm))
    | some b =>
     rw [hblk] at q k4
     obtain ⟨E, cc, hE, _, _, _, j5, _⟩ := k4.2.cells (.inr (by omega))
     refine fin _ _ _ q (w3 _ (by omega) fun hf => ?_)
     rcases hE with (hE | hE) | ⟨hE, hcap⟩
     ·rw [hE] at hf; cases hf
     ·rw [hE] at hf; cases hf
     ·omega
   ·rw [hb] at k4
    have hn0 : n = 0 := by rw [← w1, k4.1]; rfl
    exact fin _ _ _ q (w3 0 (by omega) (fun _ => hn0.symm))
  ·exact hw.elim
 ·rename_i l n lo hi q1
  rw [q1] at rx
  simp only [Rep] at rx
  obtain ⟨_, i, e1, e2, e3⟩ := rx
  split at hw
  ·rename_i r q2
   obtain ⟨w1, w2, w3⟩ := hw
   obtain ⟨k1, k2, k3, k4⟩ := hm.rows l i r e1 q2
   have hlen : n = i.len := by rw [k1, w1]
   obtain ⟨g1, g2, g3⟩ := e3 hlen
   rcases g3 with ⟨hb, p, q⟩ | ⟨b, off, hb, q, _⟩
   ·rw [hb] at k4
    have hn0 : n = 0 := by rw [← w1, k4.1]; rfl
    exact fin _ _ _ q (w3 0 (by omega) (fun _ => by omega))
   ·rw [hb] at k4
    obtain ⟨E, cc, hE, _, _, _, j5, _⟩ := k4.2.cells (.inr (by omega))
    refine fin _ _ _ q (w3 _ (by omega) fun hf => ?_)
    rcases hE with (hE | hE) | ⟨hE, hcap⟩
    ·rw [hE] at hf; cases hf
    ·rw [hE] at hf; cases hf
    ·omega
  ·exact hw.elim
 ·exact hw.elim
theorem n6_ (w : World) (dT sT ty elem : TypeId) {i : TypeInfo} (b off : Nat) (cur : Array Value) (tt : TypeId) (dLen dCap : Nat) {src : Addr} {n sc : Nat} (cs : List Value)
 (hu : P.underlying dT = some (.slice elem)) (hi : P.info? elem = some i) (hn : cs.length = Nat.min n dLen * i.size) (hsrc : ∀ j v, cs[j]? = some v → w.cell? (src.add j) = some v)
 {fr : Nat × Nat} (hb : w.heap[b]? = some (.cells cur tt fr)) (hfr : ∀ k, k < cur.size → ¬ (fr.1 ≤ k ∧ k < fr.2)) (hbound : off + cs.length ≤ cur.size) (h1 : ∀ v ∈ cs, v.oneCell' = true) :
 (Builtin.copy_ #[dT, sT] ty #[.slice (some ⟨b, off, none⟩) dLen dCap, .slice (some src) n sc]).run P w = .ok (goInt (Nat.min n dLen)) (w.setRow b (cur.toList.take off ++ cs ++ cur.toList.drop (off + cs.length)).toArray) := by
 have hl := run_loadCells_list (P := P) w src cs hsrc
 have hst := eF_ (P := P) b off tt fr cs 0 cur w hb hfr (by simpa using hbound) h1
 simp only [Nat.add_zero] at hst
 rw [hn] at hl
 simp [Builtin.copy_, run_underlying hu, Builtin.lenOf, Builtin.firstCells, bE_ hi, hl, hst]
theorem mm_ (w : World) (dT sT ty elem : TypeId) {i : TypeInfo} (d : Option Addr) (dLen dCap : Nat) {src : Option Addr} {n sc : Nat}
 (hu : P.underlying dT = some (.slice elem)) (hi : P.info? elem = some i) (hn : Nat.min n dLen = 0) :
 (Builtin.copy_ #[dT, sT] ty #[.slice d dLen dCap, .slice src n sc]).run P w = .ok (goInt 0) w := by
 have hl : ∀ s : Addr, (loadCells s 0).run P w = .ok #[] w := fun s => run_loadCells_list (P := P) w s [] (by simp)
 cases src <;> cases d <;> simp [Builtin.copy_, run_underlying hu, Builtin.lenOf, Builtin.firstCells, bE_ hi, hn, hl, storeCells]
theorem p1_ {c : Call} {x y : Operand} {ty e : TypeId} {i : TypeInfo} (hop : o.op = .call c) (hc : c.callee = .builtin .copy) (ha : c.args = #[x, y]) (ht : c.argTypes = #[ty, ty]) (hu : P.underlying ty = some (.slice e)) (hi : P.info? e = some i)
 (hm : ae_ S h w) (hr : Rel S N t a) (hxo : aj_ N x = true) (hyo : aj_ N y = true) (hw : aZ_ P t h K (.copySl i.size x y)) (hh : bM_ S w a o K next) : o.wp P a w next Q := by
 have rx := hr.eval hxo
 have hexec : (execOp a.eval o).run P w = ((Builtin.copy_ #[ty, ty] o.type #[a.eval x, a.eval y]).run P w).andThen fun v w' => .ok (.value v) w' := by
  simp [execOp, hop, resolve, hc, ha, ht, invoke, builtin]
 simp only [aZ_] at hw
 split at hw
 ·rename_i l n lo hi' es q1 q2
  rw [q1] at rx
  simp only [Rep] at rx
  obtain ⟨_, inf, p1, p2, p3⟩ := rx
  obtain ⟨hel, hsrc⟩ := fc_ hm q2 (hr.eval hyo)
  split at hw
  ·rename_i r e3
   obtain ⟨w1, w2, g1, g3, hpos, g6, hk⟩ := hw
   obtain ⟨k1, k2, k3, k4⟩ := hm.rows l inf r p1 e3
   obtain ⟨_, _, hxv⟩ := p3 (by omega)
   obtain ⟨m, hmm⟩ : ∃ m, m = Nat.min es.length (hi' - lo) := ⟨_, rfl⟩
   rw [← hmm] at hk
   have hm1 : m ≤ es.length := by rw [hmm]; exact Nat.min_le_left _ _
   have hm2 : m ≤ hi' - lo := by rw [hmm]; exact Nat.min_le_right _ _
   have hfl : (es.take (hi' - lo)).length = m := by rw [length_take, hmm, Nat.min_comm]
   have hft : es.take (hi' - lo) = es.take m := by
    by_cases q : es.length ≤ hi' - lo
    ·rw [take_of_length_le q, take_of_length_le (by rw [hmm]; show es.length ≤ min es.length (hi' - lo); omega)]
    ·have : m = hi' - lo := by rw [hmm]; show min es.length (hi' - lo) = _; omega
     rw [this]
   by_cases h0 : m = 0
   ·have hnil : es.take (hi' - lo) = [] := eq_nil_of_length_eq_zero (by omega)
    have hself : ({ r with es := r.es.take lo ++ es.take (hi' - lo) ++ r.es.drop (lo + m) } : Row) = r := by
     rw [hnil, h0]; simp
    have hsl : h.set l r = h := gO_ e3
    rw [hself, hsl, h0] at hk
    have hys : ∃ sp n sc, a.eval y = .slice sp n sc ∧ n = es.length := by
     rcases hsrc with ⟨q, p, c0, e1⟩ | ⟨b, off, cap, cc, E, fr, e1, _⟩
     ·exact ⟨p, 0, c0, e1, by rw [q]; rfl⟩
     ·exact ⟨_, _, _, e1, rfl⟩
    obtain ⟨sp, sn, sc, hys, rfl⟩ := hys
    have hxs : ∃ dp dc, a.eval x = .slice dp (hi' - lo) dc := by
     rcases hxv with ⟨hb, p, q⟩ | ⟨b, off, hb, q, _⟩
     ·rw [hb] at k4
      have hn0 : n = 0 := by rw [← g1, k4.1]; rfl
      exact ⟨p, 0, by rw [q, show hi' - lo = 0 by omega]⟩
     ·exact ⟨_, _, q⟩
    obtain ⟨dp, dc, hxs⟩ := hxs
    have hrun : (execOp a.eval o).run P w = .ok (.value (.int .i64 (0 : Nat))) w := by
     rw [hexec, hxs, hys, mm_ w ty ty o.type e dp _ _ hu hi (by rw [← hmm]; exact h0)]; rfl
    exact aW_ hrun (hh _ _ S h w (a8_.refl _ _) hm (by simp [Rep]) hk)
   ·rcases hsrc with ⟨q, _⟩ | ⟨sb, soff, scap, sc, sE, sfr, y1, y2, y3, y4⟩
    ·rw [q] at hm1; simp at hm1; omega
    ·rcases hxv with ⟨hb, _⟩ | ⟨b, off, hb, hxs, hoff⟩
     ·rw [hb] at k4
      have hn0 : n = 0 := by rw [← g1, k4.1]; rfl
      omega
     ·rw [hb] at k4
      obtain ⟨E', cc, hE', ⟨fr, j2, hfr⟩, j3, j4, j5, j6⟩ := k4.2.cells (.inr (by omega))
      have ho : off = lo * i.size := by rw [hoff (by omega), k2, g3]
      rw [ho] at hxs
      obtain ⟨cs, hcs⟩ : ∃ cs, cs = (sc.toList.drop soff).take (m * i.size) := ⟨_, rfl⟩
      have hle : m * i.size ≤ es.length * i.size := Nat.mul_le_mul_right _ hm1
      have hcl : cs.length = m * i.size := by rw [hcs]; simp; omega
      have hnews : ∀ j u, cs[j]? = some u → w.cell? ((⟨sb, soff, none⟩ : Addr).add j) = some u := by
       intro j u hj
       rw [hcs, getElem?_take] at hj
       split at hj
       ·rw [bY_]
        have : sc[soff + j]? = some u := by simpa using hj
        simp [World.cell?, y2, this]
       ·simp at hj
      have hel' : ∀ e ∈ es.take m, e.length = i.size := fun d hd => hel d (mem_of_mem_take hd)
      have hrt : am_ S (es.take m) (sc.toList.drop soff) := am_.take y4
      have htl : (es.take m).length = m := by simp; omega
      have hone : ∀ v ∈ cs, v.oneCell' = true := by
       rw [hcs]
       have := ju_ hel' (by rw [← hft]; exact g6) hrt
       rwa [htl] at this
      have hrn : am_ S (es.take m) cs := by
       rw [hcs]
       exact cB_ hel' hrt (by rw [htl]; exact Nat.le_refl _)
      have hfit : lo * i.size + cs.length ≤ cc.size := by
       rw [hcl, j4, k2, g3, ← Nat.add_mul]; exact Nat.mul_le_mul_right _ (by omega)
      have hrun := n6_ (P := P) w ty ty o.type e b (lo * i.size) cc E' (hi' - lo) (inf.cap - lo) (src := ⟨sb, soff, none⟩) (n := es.length) (sc := scap) cs hu hi (by rw [hcl, ← hmm]) hnews j2 (fun o ho => hfr.free o ho) hfit hone
      rw [← hmm] at hrun
      have hsp := gJ_ (p := lo) (es2 := es.take m) k3 j3 (by simp only [Array.length_toList]; rw [j4, ← k1, k2]; exact Nat.mul_le_mul_right _ j5) (by rw [g3]; exact hel') hrn (by rw [hcl, htl, g3]) (by rw [htl]; omega)
      rw [g3, htl] at hsp
      have hcsz : (cc.toList.take (lo * i.size) ++ cs ++ cc.toList.drop (lo * i.size + cs.length)).toArray.size = cc.size := by
       simp only [size_toArray, List.length_append, length_drop, Array.length_toList, length_take] at hfit ⊢
       omega
      have hg := ae_.set (w' := w.setRow b (cc.toList.take (lo * i.size) ++ cs ++ cc.toList.drop (lo * i.size + cs.length)).toArray) hm hE' p1 e3 hb
       (es' := r.es.take lo ++ es.take m ++ r.es.drop (lo + m)) (c' := (cc.toList.take (lo * i.size) ++ cs ++ cc.toList.drop (lo * i.size + cs.length)).toArray)
       (by simp only [List.length_append, length_drop, length_take]; omega) (by simpa using hsp)
       (by
         intro d hd
         rcases mem_append.1 hd with q | q
         ·rcases mem_append.1 q with q | q
          ·exact k3 d (mem_of_mem_take q)
          ·rw [g3]; exact hel' d q
         ·exact k3 d (mem_of_mem_drop q))
       (by rw [hcsz, j4]) ⟨fr, setRow_heap w b cc _ E' _ j2, hfr.size hcsz⟩ (fun q hq => setRow_other w b q _ hq) (setRow_size _ _ _) rfl rfl rfl
      rw [hft] at hk
      refine aW_ (v := .int .i64 m) ?_ (hh _ _ _ _ _ hg.2 hg.1 (by simp [Rep]) hk)
      rw [hexec, hxs, y1, hrun]; rfl
  ·exact hw.elim
 ·exact hw.elim
theorem pm_ {g : FuncId} (hv : mu_ P g = true) : ∃ fn T U e i, P.funcs[g]? = some fn ∧ (fn.name == "runtime.NumGoroutine") = false ∧ fn.body.isNone = true ∧ Extern.findNext fn = none ∧
 Extern.find fn = some (Extern.SlicesOverlaps.overlaps #[T, T] U) ∧ P.underlying T = some (.slice e) ∧ P.info? e = some i := by
 unfold mu_ at hv
 split at hv
 ·rename_i fn hf
  simp only [Bool.and_eq_true, Bool.not_eq_true', beq_iff_eq] at hv
  obtain ⟨⟨⟨⟨⟨⟨⟨h1, h2⟩, h3⟩, h4⟩, h5⟩, h6⟩, h7⟩, h8⟩ := hv
  split at h8
  ·rename_i T U hp
   simp only [Bool.and_eq_true, beq_iff_eq] at h8
   obtain ⟨rfl, h8⟩ := h8
   split at h8
   ·rename_i e hu
    obtain ⟨i, hi⟩ := Option.isSome_iff_exists.1 h8
    have hpp : fn.params = #[T, T] := by apply Array.toList_inj.1; simpa using hp
    rw [Option.isNone_iff_eq_none] at h4 h5 h6 h7
    refine ⟨fn, T, fn.resultTypes, e, i, hf, h2, h1, ?_, ?_, hu, hi⟩
    ·unfold Extern.findNext
     simp only [h7, h3]
     rw [show Extern.allNextRows.lookup "slices.overlaps" = none by kernel_rfl]; rfl
    ·unfold Extern.find
     simp only [h4, h5, h6, h3]
     rw [show Extern.allGenericRows.lookup "slices.overlaps" = none by kernel_rfl, show Extern.allTypedRows.lookup "slices.overlaps" = some Extern.SlicesOverlaps.overlaps by kernel_rfl, hpp]
     rfl
   ·simp at h8
  ·simp at h8
 ·simp at hv
theorem iQ_ (w : World) (tS e : TypeId) (U : Array TypeId) (ht : P.underlying tS = some (.slice e)) (size : Nat) (hz : (Go.sizeOf e).run P w = .ok size w) (pa pb : Option Addr) (la ca lb cb : Nat) (h0 : la = 0 ∨ lb = 0) :
 (Extern.SlicesOverlaps.overlaps #[tS, tS] U #[.slice pa la ca, .slice pb lb cb]).run P w = .ok (.bool false) w := by
 change Sem.run P (α := Value) (do
  let some t := (#[tS, tS] : Array TypeId)[0]? | stuck "slices.overlaps: no parameter types"
  let .slice elem ← underlying t | stuck "slices.overlaps: slice type expected"
  let size ← sizeOf elem
  match pa, pb with
  | some a, some b =>
   if la = 0 ∨ lb = 0 ∨ size = 0 then pure (Value.bool false)
   else if a.block != b.block && (← frozen a) && (← frozen b) then unsupported .addressObserved
   else do
    if a.block != b.block then do
     noView a; noView b
     if ← mayBeOne a b then return Value.bool ((← choose (.extern "sameAddr.stringBytes" 2)) == 1)
    pure (Value.bool (a.block == b.block && a.off < b.off + lb * size && b.off < a.off + la * size))
  | _, _ => pure (Value.bool false)) w = _
 have h1 : la = 0 ∨ lb = 0 ∨ size = 0 := by rcases h0 with q | q <;> simp [q]
 cases pa <;> cases pb <;> simp [run_underlying ht, hz, h1]
theorem wm_ {c : Call} {g : FuncId} {x y : Operand} (hop : o.op = .call c) (hc : c.callee = .value (.func g)) (ha : c.args = #[x, y]) (hv : mu_ P g = true) (hm : ae_ S h w) (hr : Rel S N t a)
 (hxo : aj_ N x = true) (hyo : aj_ N y = true) (hw : aZ_ P t h K (.ovl x y)) (hh : bM_ S w a o K next) : o.wp P a w next Q := by
 obtain ⟨fn, T, U, e, i, hf, hnm, hbd, hnx, hfd, hu, hi⟩ := pm_ hv
 have hexec : (execOp a.eval o).run P w = ((Extern.SlicesOverlaps.overlaps #[T, T] U #[a.eval x, a.eval y]).run P w).andThen fun v w' => .ok (.value v) w' := by
  have e1 : (execOp a.eval o).run P w = (callFunc g #[a.eval x, a.eval y]).run P w := by
   simp [execOp, hop, resolve, hc, ha, Act.eval, Deferred.ofValue, invoke]
  rw [e1, run_callFunc_extern hf hnm hbd hnx hfd]
 have rx := hr.eval hxo
 have ry := hr.eval hyo
 simp only [aZ_] at hw
 split at hw
 ·rename_i l n l' n' lo hi' q1 q2
  rw [q1] at rx
  rw [q2] at ry
  simp only [Rep] at rx ry
  obtain ⟨_, i1, p1, p2, p3⟩ := rx
  obtain ⟨_, i2, u1, u2, u3⟩ := ry
  split at hw
  ·rename_i r r' e3 e4
   obtain ⟨hne, w1, w2, w3, w4, w5, w6, hk⟩ := hw
   obtain ⟨k1, k2, k3, k4⟩ := hm.rows l i1 r p1 e3
   obtain ⟨m1, m2, m3, m4⟩ := hm.rows l' i2 r' u1 e4
   have hxv := p3 (by omega)
   obtain ⟨g1, g2, hyv⟩ := u3 (by omega)
   have hfrz : ∀ b c E, w.heap[b]? = some (.cells c E (0, 0)) → ∀ k, w.frozen? ⟨b, k, none⟩ = false := by
    intro b c E hb k
    simp [World.frozen?, hb]
   have fin : (Extern.SlicesOverlaps.overlaps #[T, T] U #[a.eval x, a.eval y]).run P w = .ok (.bool false) w → o.wp P a w next Q := fun hrun =>
    aW_ (by rw [hexec, hrun]; rfl) (hh (.bool false) _ S h w (a8_.refl _ _) hm (by simp [Rep]) hk)
   have easy : ∀ (pa pb : Option Addr) (na ca nb cb : Nat), a.eval x = .slice pa na ca → a.eval y = .slice pb nb cb → (na = 0 ∨ nb = 0) → o.wp P a w next Q := by
    intro pa pb na ca nb cb ex ey h0
    refine fin ?_
    rw [ex, ey]
    exact iQ_ w T e U hu i.size (bE_ hi w) pa pb na ca nb cb h0
   rcases hyv with ⟨hb2, pb, ey⟩ | ⟨b2, off2, hb2, ey, hoff2⟩
   ·cases hb1 : i1.blk with
    | none =>
     rcases hxv with q | ⟨_, p, q⟩
     ·simp only [sliceAt, hb1] at q
      exact easy _ _ _ _ _ _ q ey (.inl rfl)
     ·exact easy _ _ _ _ _ _ q ey (.inl rfl)
    | some b1 =>
     rcases hxv with q | ⟨q, _⟩
     ·simp only [sliceAt, hb1] at q
      exact easy _ _ _ _ _ _ q ey (.inr rfl)
     ·rw [hb1] at q; cases q
   ·cases hb1 : i1.blk with
    | none =>
     rcases hxv with q | ⟨_, p, q⟩
     ·simp only [sliceAt, hb1] at q
      exact easy _ _ _ _ _ _ q ey (.inl rfl)
     ·exact easy _ _ _ _ _ _ q ey (.inl rfl)
    | some b1 =>
     rcases hxv with q | ⟨q, _⟩
     ·simp only [sliceAt, hb1] at q
      by_cases hz : i1.len = 0 ∨ hi' - lo = 0
      ·exact easy _ _ _ _ _ _ q ey hz
      ·rw [hb1] at k4
       rw [hb2] at m4
       obtain ⟨E1, c1, _, ⟨f1, j2, hf1⟩, _, j4, j5, _⟩ := k4.2.cells (.inr (by omega))
       obtain ⟨E2, c2, _, ⟨f2, n2, hf2⟩, _, n4, n5, _⟩ := m4.2.cells (.inr (by omega))
       obtain rfl := hf1.not w5
       obtain rfl := hf2.not w6
       have hbb : b1 ≠ b2 := fun q => hne (hm.one l l' i1 i2 b1 p1 u1 hb1 (by rw [q]; exact hb2))
       have hc2 : c2.size ≠ 0 := by
        rw [n4, m2]
        have : 0 < i2.cap * r'.sz := Nat.mul_pos (by omega) w4
        omega
       refine fin ?_
       rw [q, ey, show ∀ A B : Value, Extern.SlicesOverlaps.overlaps #[T, T] U #[A, B] = Extern.SlicesOverlaps.overlaps #[T, T] #[0] #[A, B] from fun A B => rfl]
       exact Lib.run_overlaps_apart w T 0 e hu i.size (bE_ hi) ⟨b1, 0, none⟩ ⟨b2, off2, none⟩ _ _ _ _ hbb E1 E2 c1.size c2.size (by simp [World.shape?, j2]) (by simp [World.shape?, n2]) hc2 (hfrz _ _ _ j2 _) (hfrz _ _ _ j2 _)
     ·rw [hb1] at q; cases q
  ·exact hw.elim
 ·exact hw.elim
theorem k2_ {c : Call} {x y : Operand} {ty e : TypeId} {i : TypeInfo} {z : Value} {l n m : Nat} {es : List (List AV)} {r : Row} (hop : o.op = .call c) (hc : c.callee = .builtin .append) (ha : c.args = #[x, y]) (ht : c.argTypes = #[ty, ty])
 (hu : P.underlying ty = some (.slice e)) (hi : P.info? e = some i) (hz : i.zero = some z) (hzs : i.size = z.cells.size) (hpos : 0 < i.size) (hm : ae_ S h w) (hr : Rel S N t a) (hx : aj_ N x = true) (hy : aj_ N y = true)
 (e1 : ak_ t x = .sub l n 0 m) (e2 : d1_ h i.size (ak_ t y) = some es) (e3 : h[l]? = some r) (g1 : r.es.length = n) (g2 : r.E = .full e) (g3 : r.sz = i.size) (hmn : m ≤ n) (hgr : n < m + es.length) (g4 : (m + es.length) * i.bytes ≤ 140737488355328) (g5 : m + es.length ≤ 9223372036854775807)
 (g6 : ∀ e ∈ es, e.all AV.cell = true) (hk : K (.own h.length (m + es.length)) (h ++ [⟨.ty e, i.size, r.es.take m ++ es⟩])) (hh : bM_ S w a o K next) : o.wp P a w next Q := by
 have rx := hr.eval hx
 rw [e1] at rx
 simp only [Rep] at rx
 obtain ⟨_, inf, p1, p2, p3⟩ := rx
 obtain ⟨k1, k2, k3, k4⟩ := hm.rows l inf r p1 e3
 obtain ⟨_, _, hxv⟩ := p3 (by omega)
 obtain ⟨hel, hsrc⟩ := fc_ hm e2 (hr.eval hy)
 have hexec := hz_ (P := P) (a := a) (o := o) (w := w) hop hc ha ht
 have hcnt : 0 < es.length := by omega
 rcases hsrc with ⟨q, _⟩ | ⟨sb, soff, scap, sc, sE, sfr, y1, y2, y3, y4⟩
 ·rw [q] at hcnt; simp at hcnt
 ·have hnl : ((sc.toList.drop soff).take (es.length * i.size)).length = es.length * i.size := by simp; omega
  have hnews : ∀ j u, ((sc.toList.drop soff).take (es.length * i.size))[j]? = some u → w.cell? ((⟨sb, soff, none⟩ : Addr).add j) = some u := by
   intro j u hj
   rw [getElem?_take] at hj
   split at hj
   ·rw [bY_]
    have : sc[soff + j]? = some u := by simpa using hj
    simp [World.cell?, y2, this]
   ·simp at hj
  have hrn := cB_ hel y4 (Nat.le_refl _)
  have hT : ∀ d ∈ r.es.take m, d.length = i.size := fun d hd => by rw [← g3]; exact k3 d (mem_of_mem_take hd)
  have hTl : (r.es.take m).length = m := by simp; omega
  have hh1 : ∀ d ∈ r.es.take m ++ es, d.length = i.size := by
   intro d hd
   rcases mem_append.1 hd with q | q
   ·exact hT d q
   ·exact hel d q
  have hlen' : (r.es.take m ++ es).length = m + es.length := by rw [List.length_append, hTl]
  have grown : ∀ (olds : List Value) (old : Nat), old < m + es.length → olds.length = m * i.size → am_ S (r.es.take m) olds →
   (execOp a.eval o).run P w = .ok (.value (.slice (some ⟨w.heap.size, 0, none⟩) (m + es.length) (grownCap w (m + es.length) old e)))
    (w.drew.alloc (.cells (olds.toArray ++ ((sc.toList.drop soff).take (es.length * i.size)).toArray ++ Builtin.zeroCells z.cells (grownCap w (m + es.length) old e - (m + es.length))) e)) →
   o.wp P a w next Q := by
   intro olds old ho hol hor hrun
   have hge := grownCap_ge w (m + es.length) old e
   have hcm := grownCap_le_maxLen w (m + es.length) old e (by simp [maxLen]; omega)
   have hoz : olds.length = (r.es.take m).length * i.size := by rw [hol, hTl]
   have hg := ae_.new (w' := w.drew.alloc (.cells (olds.toArray ++ ((sc.toList.drop soff).take (es.length * i.size)).toArray ++ Builtin.zeroCells z.cells (grownCap w (m + es.length) old e - (m + es.length))) e)) hm (E := e) (sz := i.size) (es := r.es.take m ++ es)
    (cap := grownCap w (m + es.length) old e) (c := olds.toArray ++ ((sc.toList.drop soff).take (es.length * i.size)).toArray ++ Builtin.zeroCells z.cells (grownCap w (m + es.length) old e - (m + es.length)))
    (by
      have := dQ_ (Builtin.zeroCells z.cells (grownCap w (m + es.length) old e - (m + es.length))).toList hh1 (cD_ (sz := i.size) hT hel hoz hor hrn)
      simpa using this)
    hh1
    (by
      simp only [Array.size_append, size_toArray, size_zeroCells, ← hzs, hol, hnl, ← Nat.add_mul]
      congr 1
      omega)
    (by rw [hlen']; omega) hcm rfl rfl rfl rfl
   rw [hlen'] at hg
   refine aW_ hrun (hh _ _ _ _ _ hg.2 hg.1 ?_ hk)
   rw [← hm.len]
   exact dU_ S _ _ _ _ _
  rcases hxv with ⟨hb, p, hxv⟩ | ⟨b, off, hb, hxv, hoff⟩
  ·rw [hb] at k4
   have hn0 : n = 0 := by rw [← g1, k4.1]; rfl
   have hm0 : m = 0 := by omega
   subst hn0 hm0
   refine grown [] 0 (by omega) (by simp) (by simp [am_]) ?_
   cases p with
   | none =>
    have hrn0 := run_append_nil (P := P) w ty o.type e i z hu hi hz ⟨sb, soff, none⟩ es.length scap _ hnl hnews hcnt (by omega) (by simp at g4; omega)
    rw [hexec, hxv, y1, hrn0]
    simp
   | some ad =>
    have hr2 := run_append_grow (P := P) w ty o.type e i z hu hi hz ad 0 0 [] (by simp) (by simp) ⟨sb, soff, none⟩ es.length scap _ hnl hnews (by omega) (by omega) (growslice_fits (by omega) g4)
    rw [hexec, hxv, y1, hr2]; rfl
  ·rw [hb] at k4
   obtain ⟨E', cc, hE', ⟨fr, j2, hfr⟩, j3, j4, j5, j6⟩ := k4.2.cells (.inr (by omega))
   have hcap : inf.cap = n := by
    rcases hE' with (q | q) | ⟨q, q2⟩
    ·rw [g2] at q; cases q
    ·rw [g2] at q; cases q
    ·omega
   have hcs : cc.size = n * i.size := by rw [j4, k2, g3, hcap]
   have hsize2 : m * i.size ≤ cc.size := by rw [hcs]; exact Nat.mul_le_mul_right _ (by omega)
   have h3 : am_ S (r.es.take m) (cc.toList.take (m * i.size)) := cB_ hT (am_.take j3) (by rw [hTl]; omega)
   have hol : (cc.toList.take (m * i.size)).length = m * i.size := by simp; omega
   have holds : ∀ j u, (cc.toList.take (m * i.size))[j]? = some u → w.cell? ((⟨b, off, none⟩ : Addr).add j) = some u := by
    intro j u hj
    rw [getElem?_take] at hj
    split at hj
    ·rename_i hjm
     have hm0 : 0 < m := by
      rcases Nat.eq_zero_or_pos m with q | q
      ·subst q; simp at hjm
      ·exact q
     rw [bY_, hoff (by omega)]
     have : cc[j]? = some u := by simpa using hj
     simp [World.cell?, j2, this]
    ·simp at hj
   have hr2 := run_append_grow (P := P) w ty o.type e i z hu hi hz ⟨b, off, none⟩ m inf.cap _ hol holds ⟨sb, soff, none⟩ es.length scap _ hnl hnews (by omega) (by omega) (growslice_fits (by omega) g4)
   refine grown (cc.toList.take (m * i.size)) inf.cap (by omega) hol h3 ?_
   simp only [Nat.sub_zero] at hxv
   rw [hexec, hxv, y1, hr2]; rfl
end
section
variable {P : Program} {S : Sit} {h : List Row} {w : World} {N : Nat} {t : Nat → AV} {a : Act} {o : Oper} {K : AV → List Row → Prop} {next : Act → World → Prop} {Q : Exit → Act → World → Prop}
theorem mg_ {c : Call} {x y : Operand} {ty e : TypeId} {i : TypeInfo} {z : Value} {es : List (List AV)} (hop : o.op = .call c) (hc : c.callee = .builtin .append) (ha : c.args = #[x, y]) (ht : c.argTypes = #[ty, ty])
 (hu : P.underlying ty = some (.slice e)) (hi : P.info? e = some i) (hz : i.zero = some z) (hzs : i.size = z.cells.size) (hm : ae_ S h w) (hr : Rel S N t a) (hx : aj_ N x = true) (hy : aj_ N y = true)
 (e1 : ak_ t x = .val (.slice none 0 0)) (e2 : d1_ h i.size (ak_ t y) = some es) (hcnt : 0 < es.length) (g4 : es.length * i.bytes ≤ 140737488355328) (g5 : es.length ≤ 9223372036854775807)
 (hk : K (.own h.length es.length) (h ++ [⟨e, i.size, es⟩])) (hh : bM_ S w a o K next) : o.wp P a w next Q := by
 have rx := hr.eval hx
 rw [e1] at rx
 simp only [Rep] at rx
 obtain ⟨hel, hsrc⟩ := fc_ hm e2 (hr.eval hy)
 have hexec := hz_ (P := P) (a := a) (o := o) (w := w) hop hc ha ht
 rcases hsrc with ⟨q, _⟩ | ⟨sb, soff, scap, sc, sE, sfr, y1, y2, y3, y4⟩
 ·subst q; simp at hcnt
 ·have hnl : ((sc.toList.drop soff).take (es.length * i.size)).length = es.length * i.size := by simp; omega
  have hnews : ∀ j u, ((sc.toList.drop soff).take (es.length * i.size))[j]? = some u → w.cell? ((⟨sb, soff, none⟩ : Addr).add j) = some u := by
   intro j u hj
   rw [getElem?_take] at hj
   split at hj
   ·rw [bY_]
    have : sc[soff + j]? = some u := by simpa using hj
    simp [World.cell?, y2, this]
   ·simp at hj
  have hrn := cB_ hel y4 (Nat.le_refl _)
  have hrn0 := run_append_nil (P := P) w ty o.type e i z hu hi hz ⟨sb, soff, none⟩ es.length scap _ hnl hnews hcnt (by omega) (by omega)
  have hge := grownCap_ge w es.length 0 e
  have hcm := grownCap_le_maxLen w es.length 0 e (by simp [maxLen]; omega)
  have hnew := ae_.new (w' := w.drew.alloc (.cells (((sc.toList.drop soff).take (es.length * i.size)).toArray ++ Builtin.zeroCells z.cells (grownCap w es.length 0 e - es.length)) e)) hm (E := e) (sz := i.size) (cap := grownCap w es.length 0 e) (es := es)
   (c := ((sc.toList.drop soff).take (es.length * i.size)).toArray ++ Builtin.zeroCells z.cells (grownCap w es.length 0 e - es.length))
   (by simpa using dQ_ (Builtin.zeroCells z.cells (grownCap w es.length 0 e - es.length)).toList hel hrn) hel
   (by
     simp only [Array.size_append, size_toArray, size_zeroCells, ← hzs, hnl, ← Nat.add_mul]
     congr 1
     omega) hge hcm rfl rfl rfl rfl
  refine aW_ (v := .slice (some ⟨w.heap.size, 0, none⟩) es.length (grownCap w es.length 0 e)) ?_ (hh _ _ _ _ _ hnew.2 hnew.1 ?_ hk)
  ·rw [hexec, rx, y1, hrn0]; rfl
  ·rw [← hm.len]
   exact dU_ S _ _ _ _ _
theorem lO_ {places : List (Nat × Nat)} {sz : Nat} : ∀ (parts : List (Nat × AV)) (j : Nat) (done rest : List AV) (es : List (List AV)),
 (∀ k, k < parts.length → places[j + k]? = some ((j + k) * sz, sz)) → parts.map (·.1) = (List.range parts.length).map (j + ·) → done.length = j * sz → rest.length = parts.length * sz →
 (parts.mapM fun p => cellsOf p.2) = some es → (∀ e ∈ es, e.length = sz) → cy_ places (done ++ rest) parts = some (done ++ es.flatten)
 | [], j, done, rest, es, _, _, _, h4, h5, _ => by
  simp at h5; subst h5
  have : rest = [] := by apply eq_nil_of_length_eq_zero; simpa using h4
  simp [cy_, this]
 | (i, v) :: parts, j, done, rest, es, h1, h2, h3, h4, h5, h6 => by
  have hi : i = j := by
   have := congrArg (fun l => l[0]?) h2
   simpa using this
  subst hi
  have h1' := h1 0 (by simp)
  simp only [Nat.add_zero] at h1'
  rw [mapM_cons] at h5
  cases hc : cellsOf v with
  | none => simp [hc] at h5
  | some ps =>
   cases hr : (parts.mapM fun p => cellsOf p.2) with
   | none => simp [hc, hr] at h5
   | some es' =>
    simp [hc, hr] at h5
    subst h5
    have hps : ps.length = sz := h6 ps (by simp)
    simp only [List.length_cons, Nat.add_mul, Nat.one_mul] at h4
    simp only [cy_, h1', hc]
    rw [if_pos ⟨hps, by simp; omega⟩]
    have e1 : (done ++ rest).take (i * sz) = done := by rw [← h3]; exact take_left
    have e2 : (done ++ rest).drop (i * sz + sz) = rest.drop sz := by
     rw [← h3, drop_append]; simp
    rw [e1, e2]
    have := lO_ (places := places) (sz := sz) parts (i + 1) (done ++ ps) (rest.drop sz) es' (fun k hk => by have := h1 (k + 1) (by simpa using hk); rw [show i + 1 + k = i + (k + 1) by omega]; exact this)
     (by
       simp only [map_cons, List.length_cons, range_succ_eq_map, List.cons.injEq, map_map] at h2
       rw [h2.2]
       apply map_congr_left
       intro x _
       simp; omega) (by simp [h3, hps, Nat.add_mul]) (by simp; omega) hr (fun e he => h6 e (by simp [he]))
    rw [this]
    simp
theorem f1_ : ∀ {es : List (List AV)} {vs : List Value}, af_ S es.flatten vs → am_ S es vs
 | [], vs, _ => by simp [am_]
 | e :: es, vs, h => by
  simp only [flatten_cons] at h
  simp only [am_]
  have hp := dL_ h
  constructor
  ·have := ay_.take (k := e.length) hp
   simpa using this
  ·have h2 := (ay_.drop (k := e.length) hp).toL
   have hl := af_.length h
   rw [take_of_length_le (by simp at hl ⊢; omega)] at h2
   exact f1_ (by simpa using h2)
theorem fH_ {ty e : TypeId} {i : TypeInfo} {z : Value} {len : Nat} {parts : Array (Nat × Operand)} {es : List (List AV)} (hop : o.op = .buildSlice ty len parts) (hu : P.underlying ty = some (.slice e)) (hi : P.info? e = some i) (hz : i.zero = some z)
 (hzs : i.size = z.cells.size) (hpos : 0 < i.size) (hsmall : len * i.size ≤ 65536) (hm : ae_ S h w) (hr : Rel S N t a) (hx : ∀ p ∈ parts.toList, aj_ N p.2 = true)
 (g1 : parts.toList.map (·.1) = List.range len) (g2 : (parts.toList.mapM fun p => cellsOf (ak_ t p.2)) = some es) (g3 : ∀ d ∈ es, d.length = i.size) :
 ∃ c', (execOp a.eval o).run P w = .ok (.value (.slice (some ⟨w.heap.size, 0, none⟩) len len)) (w.alloc (.cells c' e)) ∧ af_ S es.flatten c'.toList ∧ c'.size = len * i.size ∧ es.length = len := by
 have hpl : parts.toList.length = len := by
  have := congrArg List.length g1
  simpa using this
 have hzero : ∀ (x : Array Value), x = (Array.range (len * i.size)).map (fun q => z.cells[q % z.cells.size]!) → x.size = len * i.size := by intro x e; subst e; simp
 generalize hz0 : (Array.range (len * i.size)).map (fun q => z.cells[q % z.cells.size]!) = zs at hzero
 have hzlen := hzero zs rfl
 have hrl : af_ S ((parts.toList.map fun p => (p.1, ak_ t p.2)).map (·.2)) ((parts.toList.map fun p => (p.1, a.eval p.2)).map (·.2)) := by
  have := eo_ hr (xs := parts.toList.map (·.2)) (by intro x hx'; obtain ⟨p, hp, e⟩ := mem_map.1 hx'; subst e; exact hx p hp)
  simpa [map_map, Function.comp_def] using this
 have hmap : ((parts.toList.map fun p => (p.1, ak_ t p.2)).mapM fun p => cellsOf p.2) = some es := by
  rw [← g2]
  simp [mapM_map, Function.comp_def]
 have haf := lO_ (places := (List.range len).map fun k => (k * i.size, i.size)) (sz := i.size) (parts.toList.map fun p => (p.1, ak_ t p.2)) 0 [] (zs.toList.map .val) es
  (by intro k hk; simp only [length_map, hpl] at hk; simp [hk])
  (by simp only [map_map, Function.comp_def, length_map, hpl, Nat.zero_add, map_id']; exact g1) (by simp) (by simp [hzlen, ← hpl]) hmap g3
 simp only [nil_append] at haf
 obtain ⟨c', hc1, hc2⟩ := jT_ (S := S) (places := (List.range len).map fun k => (k * i.size, i.size)) (place := fun k => some (k * i.size, i.size))
  (by
    intro k p hk
    have hkl : k < len := by
     rcases List.getElem?_eq_some_iff.1 hk with ⟨q, _⟩
     simpa using q
    simp [hkl] at hk
    exact congrArg some hk) (parts.toList.map fun p => (p.1, ak_ t p.2)) (parts.toList.map fun p => (p.1, a.eval p.2)) _ _ zs (fa_ S _) (by simp [map_map, Function.comp_def]) hrl haf
 have hcsize : c'.size = len * i.size := by
  have h1 := af_.length hc2
  simp only [Array.length_toList] at h1
  rw [h1]
  have hes : es.length = len := by
   have : ∀ (l : List (Nat × Operand)) (r : List (List AV)), (l.mapM fun p => cellsOf (ak_ t p.2)) = some r → r.length = l.length := by
    intro l
    induction l with
    | nil => intro r h; simp at h; subst h; rfl
    | cons p l ih =>
     intro r h
     rw [mapM_cons] at h
     cases q1 : cellsOf (ak_ t p.2) with
     | none => simp [q1] at h
     | some c1 =>
      cases q2 : (l.mapM fun p => cellsOf (ak_ t p.2)) with
      | none => simp [q1, q2] at h
      | some r' => simp [q1, q2] at h; subst h; simp [ih r' q2]
   rw [this _ _ g2, hpl]
  have : ∀ (l : List (List AV)), (∀ d ∈ l, d.length = i.size) → l.flatten.length = l.length * i.size := by
   intro l
   induction l with
   | nil => simp
   | cons d l ih =>
    intro hd
    simp only [flatten_cons, List.length_append, List.length_cons, Nat.add_mul]
    rw [ih (fun x hx => hd x (by simp [hx])), hd d (by simp)]; omega
  rw [this es g3, hes]
 have hrun : (execOp a.eval o).run P w = .ok (.value (.slice (some ⟨w.heap.size, 0, none⟩) len len)) (w.alloc (.cells c' e)) := by
  have hp : (parts.map fun x => (x.1, a.eval x.2)).toList = parts.toList.map fun p => (p.1, a.eval p.2) := by simp
  have hne : ¬ (len * i.size > 2 ^ 24) := by omega
  by_cases h0 : len * i.size = 0
  ·have hl0 : len = 0 := by
    rcases Nat.mul_eq_zero.1 h0 with q | q
    ·exact q
    ·omega
   subst hl0
   have hpn : parts = #[] := by
    apply Array.eq_empty_of_size_eq_zero; simpa using hpl
   subst hpn
   simp [Instr.fill] at hc1
   have hzs0 : zs = #[] := by apply Array.eq_empty_of_size_eq_zero; simpa using hzlen
   subst hzs0
   subst hc1
   simp [execOp, hop, Instr.buildSlice, run_underlying hu, bE_ hi, Instr.fill, newRow]
   have e0 : Array.map (fun _ => default) (Array.range 0) = (#[] : Array Value) := by apply Array.eq_empty_of_size_eq_zero; simp
   rw [e0]
  ·simp only [execOp, hop, Instr.buildSlice, Sem.run_bind, run_underlying hu, Result.andThen_ok, bE_ hi, hne, if_false, h0, zeroValue, dJ_ hi, hz, Sem.run_pure, hp, hz0, hc1, newRow, Sem.run_ite]
   simp
 have hes : es.length = len := by
  have h1 := af_.length hc2
  simp only [Array.length_toList, hcsize] at h1
  have : ∀ (l : List (List AV)), (∀ d ∈ l, d.length = i.size) → l.flatten.length = l.length * i.size := by
   intro l
   induction l with
   | nil => simp
   | cons d l ih =>
    intro hd
    simp only [flatten_cons, List.length_append, List.length_cons, Nat.add_mul]
    rw [ih (fun x hx => hd x (by simp [hx])), hd d (by simp)]; omega
  rw [this es g3] at h1
  exact (Nat.eq_of_mul_eq_mul_right hpos h1).symm
 exact ⟨c', hrun, hc2, hcsize, hes⟩
theorem mh_ {ty e : TypeId} {i : TypeInfo} {z : Value} {len : Nat} {parts : Array (Nat × Operand)} {es : List (List AV)} (hop : o.op = .buildSlice ty len parts) (hu : P.underlying ty = some (.slice e)) (hi : P.info? e = some i) (hz : i.zero = some z)
 (hzs : i.size = z.cells.size) (hpos : 0 < i.size) (hsmall : len * i.size ≤ 65536) (hm : ae_ S h w) (hr : Rel S N t a) (hx : ∀ p ∈ parts.toList, aj_ N p.2 = true)
 (g1 : parts.toList.map (·.1) = List.range len) (g2 : (parts.toList.mapM fun p => cellsOf (ak_ t p.2)) = some es) (g3 : ∀ d ∈ es, d.length = i.size)
 (hk : K (.own h.length len) (h ++ [⟨e, i.size, es⟩])) (hh : bM_ S w a o K next) : o.wp P a w next Q := by
 obtain ⟨c', hrun, hc2, hcsize, hes⟩ := fH_ hop hu hi hz hzs hpos hsmall hm hr hx g1 g2 g3
 have hmax : len ≤ maxLen := by
  have : len * 1 ≤ len * i.size := Nat.mul_le_mul_left _ hpos
  simp [maxLen]; omega
 have hnew := ae_.new (w' := w.alloc (.cells c' e)) hm (E := e) (sz := i.size) (cap := len) (es := es) (c := c') (f1_ hc2) g3 hcsize (by omega) hmax rfl rfl rfl rfl
 rw [hes] at hnew
 refine aW_ hrun (hh _ _ _ _ _ hnew.2 hnew.1 ?_ hk)
 rw [← hm.len]
 exact dU_ S _ _ _ _ _
theorem ae_.newImm {w' : World} {c : Array Value} {E : TypeId} {fr : Nat × Nat} (hm : ae_ S h w) (hb : RowKit.Below w.heap.size w w') (hnew : w'.heap[w.heap.size]? = some (.cells c E fr)) :
 ∃ S' : Sit, a8_ S w S' w' ∧ ae_ S' h w' ∧ S'.imm w.heap.size = some c := by
 let S' : Sit := { imm := fun b => if b = w.heap.size then some c else S.imm b, rows := S.rows }
 have hle : S.le S' := by
  refine ⟨fun b c q => ?_, fun l i q => ⟨i, q, Nat.le_refl _, fun _ => rfl⟩⟩
  show (if b = w.heap.size then _ else S.imm b) = _
  rw [if_neg (by have := hm.immLt q; omega)]; exact q
 have hm' : ae_ S' h w' := by
  refine ⟨fun b d q => ?_, hm.len, fun l i r q1 q2 => ?_, hm.one⟩
  ·have q' : (if b = w.heap.size then some c else S.imm b) = some d := q
   split at q'
   ·rename_i e0; subst e0
    simp at q'; subst q'
    exact ⟨_, _, hnew⟩
   ·obtain ⟨E, fr, k⟩ := hm.imm b d q'
    exact ⟨E, fr, by rw [hb.block b (hm.immLt q')]; exact k⟩
  ·obtain ⟨k1, k2, k3, k4⟩ := hm.rows l i r q1 q2
   refine ⟨k1, k2, k3, ?_⟩
   cases hbk : i.blk with
   | none => rw [hbk] at k4; exact k4
   | some b =>
    rw [hbk] at k4
    have hlt := hm.ownLt ⟨l, i, q1, hbk⟩
    have j1 := k4.1
    refine ⟨?_, k4.2.le hle (hb.block b hlt)⟩
    show (if b = w.heap.size then _ else S.imm b) = _
    rw [if_neg (by omega)]; exact j1
 have hst : a8_ S w S' w' := ⟨hle, hb.os, hb.tape, hb.output, hb.size, fun b hlt _ => hb.block b hlt, fun b q => .inl q, fun b d q => by
  have q' : (if b = w.heap.size then some c else S.imm b) = some d := q
  split at q'
  ·exact .inr (.inr (by omega))
  ·exact .inl q'⟩
 exact ⟨S', hst, hm', by show (if w.heap.size = w.heap.size then some c else S.imm w.heap.size) = _; rw [if_pos rfl]⟩
theorem oa_ {ty e : TypeId} {i : TypeInfo} {z : Value} {len : Nat} {parts : Array (Nat × Operand)} {es : List (List AV)} (hop : o.op = .buildSlice ty len parts) (hu : P.underlying ty = some (.slice e)) (hi : P.info? e = some i) (hz : i.zero = some z)
 (hzs : i.size = z.cells.size) (hpos : 0 < i.size) (hsmall : len * i.size ≤ 65536) (hm : ae_ S h w) (hr : Rel S N t a) (hx : ∀ p ∈ parts.toList, aj_ N p.2 = true)
 (g1 : parts.toList.map (·.1) = List.range len) (g2 : (parts.toList.mapM fun p => cellsOf (ak_ t p.2)) = some es) (g3 : ∀ d ∈ es, d.length = i.size) (g4 : ∀ d ∈ es, d.all AV.flat = true)
 (hk : K (.list 0 i.size es) h) (hh : bM_ S w a o K next) : o.wp P a w next Q := by
 obtain ⟨c', hrun, hc2, hcsize, hes⟩ := fH_ hop hu hi hz hzs hpos hsmall hm hr hx g1 g2 g3
 have hb : RowKit.Below w.heap.size w (w.alloc (.cells c' e)) := (RowKit.Below.refl _ _).alloc (Nat.le_refl _) _
 obtain ⟨S', hst, hm', himm⟩ := hm.newImm (E := e) (fr := (0, 0)) (c := c') hb (by show (w.heap.push _)[w.heap.size]? = _; simp)
 refine aW_ hrun (hh _ _ S' h _ hst hm' ?_ hk)
 simp only [Rep]
 right
 have hflat : es.flatten.all AV.flat = true := by
  rw [all_eq_true]; intro x hx'
  obtain ⟨d, hd, hxd⟩ := mem_flatten.1 hx'
  exact all_eq_true.1 (g4 d hd) x hxd
 refine ⟨w.heap.size, 0, len, c', by rw [hes], by omega, himm, g3, .inl trivial, by rw [hes, hcsize]; omega, ?_⟩
 rw [drop_zero]
 exact f1_ (af_.up hst.le.still _ _ (eG_ hflat hc2))
theorem pL_ {src dst e : TypeId} {x : Operand} {s : ByteArray} (hop : o.op = .convert src dst x) (hs : P.underlying src = some .string) (hd : P.underlying dst = some (.slice e)) (he : P.underlying e = some (.int .u8)) (hm : ae_ S h w) (hr : Rel S N t a) (hx : aj_ N x = true)
 (hv : ak_ t x = .val (.string s)) (hk : ToB K e s h) (hh : bM_ S w a o K next) : o.wp P a w next Q := by
 have rx := hr.eval hx
 rw [hv] at rx
 simp only [Rep] at rx
 generalize hcap : grownCap w s.size 0 e = cap
 have hge : s.size ≤ cap := by rw [← hcap]; exact grownCap_ge w s.size 0 e
 generalize hw' : w.drew.alloc (.cells (bytesRow s cap) e ((bytesRow s cap).size, (bytesRow s cap).size + 1)) = w'
 have hrun : (execOp a.eval o).run P w = .ok (.value (.slice (some ⟨w.heap.size, 0, none⟩) s.size cap)) w' := by
  have := run_bytes_of_string (P := P) w src dst e s hs hd he
  rw [hcap, hw'] at this
  simp only [execOp, hop, rx, Sem.run_bind, this, Result.andThen_ok]
  rfl
 have hbl0 : (aA_ s.data.toList).length = s.size := by
  simp only [aA_, length_map, Array.length_toList]; rfl
 have hall0 : ∀ d ∈ aA_ s.data.toList, d.length = 1 := by
  intro d hd; obtain ⟨x, _, q⟩ := mem_map.1 hd; subst q; rfl
 have hrep0 : ∀ S0 : Sit, am_ S0 (aA_ s.data.toList) (bytesRow s cap).toList := by
  intro S0
  rw [bz_ hall0]
  intro i d hd j c hc
  simp only [aA_, getElem?_map, Option.map_eq_some_iff] at hd
  obtain ⟨x, hx', e1⟩ := hd
  subst e1
  cases j with
  | succ j => simp at hc
  | zero =>
   simp at hc; subst hc
   refine ⟨.int .u8 x.toNat, ?_, by simp [Rep]⟩
   have hi : i < s.data.size := by
    have := (List.getElem?_eq_some_iff.1 hx').1
    simpa using this
   have hx2 : s.data[i]? = some x := by simpa using hx'
   simp only [Nat.mul_one, Nat.add_zero, Array.getElem?_toList, bytesRow]
   rw [Array.getElem?_append_left (by simpa using hi), Array.getElem?_map, hx2]
   rfl
 have hbsz : (bytesRow s cap).size = cap := by
  have h0 : s.data.size = s.size := rfl
  simp [bytesRow, h0]; omega
 have hwh : w'.heap = w.heap.push (.cells (bytesRow s cap) e ((bytesRow s cap).size, (bytesRow s cap).size + 1)) := by rw [← hw']; rfl
 rcases hk.out with hk | hk
 case inr =>
  obtain ⟨hsm, hk⟩ := hk
  have hcm : cap ≤ maxLen := by rw [← hcap]; exact grownCap_le_maxLen w s.size 0 e (by simp [maxLen]; omega)
  have hnew := ae_.newRow (w' := w') hm (E := .byt e) (sz := 1) (cap := cap) (es := aA_ s.data.toList) hall0
   (by
     rw [ba_.byt (E := e) rfl]
     exact ⟨bytesRow s cap, ((bytesRow s cap).size, (bytesRow s cap).size + 1), ⟨by rw [hwh]; simp, .inr (Nat.le_refl _)⟩, hrep0 _, by rw [hbsz, Nat.mul_one], by rw [hbl0]; exact hge, hcm⟩) hwh (by rw [← hw']; rfl) (by rw [← hw']; rfl) (by rw [← hw']; rfl)
  refine aW_ hrun (hh _ _ _ _ _ hnew.2 hnew.1 ?_ hk)
  rw [← hm.len]
  simp only [Rep]
  exact ⟨⟨_, _, _, rfl⟩, ⟨(aA_ s.data.toList).length, some w.heap.size, cap, 1⟩, by simp, by rw [hbl0]; exact Nat.le_refl _, fun _ => .inl (by simp [sliceAt, hbl0])⟩
 have hb : Below w.heap.size w w' := by
  rw [← hw']
  exact (RowKit.Below.refl _ _).drew.alloc (Nat.le_refl _) _
 have hnew : w'.heap[w.heap.size]? = some (.cells (bytesRow s cap) e ((bytesRow s cap).size, (bytesRow s cap).size + 1)) := by
  rw [← hw']
  show (w.heap.push _)[w.heap.size]? = _
  simp
 have hnone : S.imm w.heap.size = none := by
  cases q : S.imm w.heap.size with
  | none => rfl
  | some c => have := hm.immLt q; omega
 let S' : Sit := { imm := fun b => if b = w.heap.size then some (bytesRow s cap) else S.imm b, rows := S.rows }
 have hle : S.le S' := by
  refine ⟨fun b c q => ?_, fun l i q => ⟨i, q, Nat.le_refl _, fun _ => rfl⟩⟩
  show (if b = w.heap.size then _ else S.imm b) = _
  rw [if_neg (by have := hm.immLt q; omega)]; exact q
 have hm' : ae_ S' h w' := by
  refine ⟨fun b c q => ?_, hm.len, fun l i r q1 q2 => ?_, hm.one⟩
  ·have q' : (if b = w.heap.size then some (bytesRow s cap) else S.imm b) = some c := q
   split at q'
   ·rename_i e0; subst e0
    simp at q'; subst q'
    exact ⟨_, _, hnew⟩
   ·obtain ⟨E, fr, k⟩ := hm.imm b c q'
    exact ⟨E, fr, by rw [hb.block b (hm.immLt q')]; exact k⟩
  ·obtain ⟨k1, k2, k3, k4⟩ := hm.rows l i r q1 q2
   refine ⟨k1, k2, k3, ?_⟩
   cases hbk : i.blk with
   | none => rw [hbk] at k4; exact k4
   | some b =>
    rw [hbk] at k4
    have hlt := hm.ownLt ⟨l, i, q1, hbk⟩
    have j1 := k4.1
    refine ⟨?_, k4.2.le hle (hb.block b hlt)⟩
    show (if b = w.heap.size then _ else S.imm b) = _
    rw [if_neg (by omega)]; exact j1
 have hst : a8_ S w S' w' := ⟨hle, hb.os, hb.tape, hb.output, hb.size, fun b hlt _ => hb.block b hlt, fun b q => .inl q, fun b c q => by
  have q' : (if b = w.heap.size then some (bytesRow s cap) else S.imm b) = some c := q
  split at q'
  ·exact .inr (.inr (by omega))
  ·exact .inl q'⟩
 refine aW_ hrun (hh _ _ S' h w' hst hm' ?_ hk)
 simp only [Rep]
 right
 have hbl : (aA_ s.data.toList).length = s.size := by
  simp only [aA_, length_map, Array.length_toList]; rfl
 have hall : ∀ d ∈ aA_ s.data.toList, d.length = 1 := by
  intro d hd; obtain ⟨x, _, q⟩ := mem_map.1 hd; subst q; rfl
 refine ⟨w.heap.size, 0, cap, bytesRow s cap, by rw [hbl], by rw [hbl]; exact hge, ?_, hall, .inl trivial, ?_, ?_⟩
 ·show (if w.heap.size = w.heap.size then some (bytesRow s cap) else S.imm w.heap.size) = _
  rw [if_pos rfl]
 ·rw [hbl]
  have h0 : s.data.size = s.size := rfl
  simp [bytesRow, h0]
 ·rw [bz_ hall]
  intro i d hd j c hc
  simp only [aA_, getElem?_map, Option.map_eq_some_iff] at hd
  obtain ⟨x, hx', e1⟩ := hd
  subst e1
  cases j with
  | succ j => simp at hc
  | zero =>
   simp at hc; subst hc
   refine ⟨.int .u8 x.toNat, ?_, by simp [Rep]⟩
   have hi : i < s.data.size := by
    have := (List.getElem?_eq_some_iff.1 hx').1
    simpa using this
   have hx2 : s.data[i]? = some x := by simpa using hx'
   simp only [Nat.mul_one, Nat.add_zero, drop_zero, Array.getElem?_toList, bytesRow]
   rw [Array.getElem?_append_left (by simpa using hi), Array.getElem?_map, hx2]
   rfl
theorem hq_ {g : FuncId} {fn : Func} {c : Code} (hf : P.funcs[g]? = some fn) (hb : fn.body = some c) (hn : (fn.name == "runtime.NumGoroutine") = false) (args : Array Value) : (callFunc g args).run P w = .ok (.enter g args) w := by
 simp only [callFunc, program, Sem.run_bind, Sem.run, Result.andThen_ok, hf, hn, hb]
 rfl
theorem f2_ {g : FuncId} (h : cc_ P g = true) : ∃ fn c, P.funcs[g]? = some fn ∧ fn.body = some c ∧ (fn.name == "runtime.NumGoroutine") = false := by
 unfold cc_ at h
 split at h
 ·rename_i fn hf
  simp only [Bool.and_eq_true, Bool.not_eq_true'] at h
  obtain ⟨h1, h2⟩ := h
  cases hb : fn.body with
  | none => simp [hb] at h1
  | some c => exact ⟨fn, c, hf, hb, h2⟩
 ·simp at h
theorem nx_ {g : FuncId} {args : List AV} {vals : Array Value} (hrun : (execOp a.eval o).run P w = .ok (.enter g vals) w) (hm : ae_ S h w) (hgl : cY_ P S) (hv : af_ S args vals.toList) (hk : callSem P g args h K) (hh : bM_ S w a o K next) : o.wp P a w next Q := by
 unfold Oper.wp
 rw [hrun]
 refine (hk S w vals hm hgl hv).mono ?_
 rintro e w' ⟨v, av, S', h', rfl, s, m', r, k⟩
 exact hh v av S' h' w' s m' r k
theorem tU_ {c : Call} {f : FuncId} (hop : o.op = .call c) (hc : c.callee = .value (.func f)) (hf : cc_ P f = true) (hm : ae_ S h w) (hgl : cY_ P S) (hr : Rel S N t a) (hx : ∀ x ∈ c.args.toList, aj_ N x = true)
 (hk : callSem P f (c.args.toList.map (ak_ t)) h K) (hh : bM_ S w a o K next) : o.wp P a w next Q := by
 obtain ⟨fn, cd, h1, h2, h3⟩ := f2_ hf
 refine nx_ (vals := c.args.map a.eval) ?_ hm hgl (by simpa using eo_ hr hx) hk hh
 simp only [execOp, hop, resolve, hc, Act.eval, Deferred.ofValue, Sem.run_bind, Sem.run_pure, Result.andThen_ok, invoke]
 rw [show (#[] ++ Array.map a.eval c.args ++ #[] : Array Value) = c.args.map a.eval by simp]
 exact hq_ h1 h2 h3 _
theorem ra_ {c : Call} {x : Operand} {g : FuncId} {first caps : List AV} (hop : o.op = .call c) (hc : c.callee = .value x) (hxx : aj_ N x = true) (hg : ak_ t x = .fn g first caps) (hf : cc_ P g = true) (hm : ae_ S h w) (hgl : cY_ P S) (hr : Rel S N t a)
 (hx : ∀ x ∈ c.args.toList, aj_ N x = true) (hk : callSem P g (first ++ c.args.toList.map (ak_ t) ++ caps) h K) (hh : bM_ S w a o K next) : o.wp P a w next Q := by
 obtain ⟨fn, cd, h1, h2, h3⟩ := f2_ hf
 have rx := hr.eval hxx
 rw [hg] at rx
 simp only [Rep] at rx
 obtain ⟨vs, us, e1, r1, r2⟩ := rx
 have app : ∀ {A B : List AV} {X Y : List Value}, af_ S A X → af_ S B Y → af_ S (A ++ B) (X ++ Y) := by
  intro A
  induction A with
  | nil => intro B X Y h1 h2; simp [af_] at h1; subst h1; simpa using h2
  | cons a A ih =>
   intro B X Y h1 h2
   simp only [af_] at h1
   obtain ⟨v, r, e, g1, g2⟩ := h1
   subst e
   simp only [cons_append, af_]
   exact ⟨v, _, rfl, g1, ih g2 h2⟩
 refine nx_ (vals := vs ++ c.args.map a.eval ++ us) ?_ hm hgl (by simpa using app r1 (app (eo_ hr hx) r2)) (by simpa using hk) hh
 simp only [execOp, hop, resolve, hc, e1, Deferred.ofValue, Sem.run_bind, Sem.run_pure, Result.andThen_ok, invoke]
 exact hq_ h1 h2 h3 _
theorem gL_ {ty e : TypeId} {i : TypeInfo} {x mx : Operand} {hi : Option Operand} {p : Option Addr} {n cp : Nat} (hop : o.op = .slice ty x none hi (some mx)) (hu : P.underlying ty = some (.slice e)) (hii : P.info? e = some i) (h1 : e2_ hi = true) (h2 : e2_ (some mx) = true)
 (hm : ae_ S h w) (hx : a.eval x = .slice p n cp) (hk : K (.own h.length 0) (h ++ [⟨e, i.size, []⟩])) (hh : bM_ S w a o K next) : o.wp P a w next Q := by
 have hb : ∀ y : Operand, e2_ (some y) = true → ∃ k, a.eval y = .int k 0 := by
  intro y hy
  unfold e2_ at hy
  split at hy
  ·rename_i k m e0
   simp at e0; subst e0
   have : m = 0 := by simpa using hy
   subst this
   exact ⟨k, rfl⟩
  ·simp at hy
 obtain ⟨k2, hmx⟩ := hb mx h2
 cases hi with
 | none => simp [e2_] at h1
 | some y =>
  obtain ⟨k1, hy⟩ := hb y h1
  have hrun : (execOp a.eval o).run P w = .ok (.value (.slice p 0 0)) w := by
   simp [execOp, hop, Instr.sliceAt, run_underlying hu, Instr.slice, hx, Instr.sliceBounds, Instr.sliceBound, hmx, hy, asIntOf, bE_ hii]
  have hnew := ae_.newNil hm (E := e) (sz := i.size)
  refine aW_ hrun (hh _ _ _ _ _ hnew.2 hnew.1 ?_ hk)
  rw [← hm.len]
  simp only [Rep]
  exact ⟨⟨_, _, _, rfl⟩, ⟨0, none, 0, i.size⟩, by simp, Nat.le_refl _, fun _ => .inr ⟨rfl, p, rfl⟩⟩
theorem nm_ {c : Call} {x : Operand} {ty e : TypeId} {i : TypeInfo} {z : Value} {l n lo hi : Nat} {r : Row} {inf : bF_} (hop : o.op = .call c) (hc : c.callee = .builtin .clear) (ha : c.args = #[x]) (ht : c.argTypes = #[ty])
 (hu : P.underlying ty = some (.slice e)) (hii : P.info? e = some i) (hz : i.zero = some z) (hzs : i.size = z.cells.size) (hz1 : ∀ v ∈ z.cells.toList, v.oneCell' = true) (hm : ae_ S h w)
 (e3 : h[l]? = some r) (p1 : S.rows[l]? = some inf) (g1 : r.es.length = n) (g2 : r.E = .ty e) (g3 : r.sz = i.size) (hlo : lo ≤ hi) (hhi : hi ≤ n)
 (hxv : ∃ p cp, a.eval x = .slice p (hi - lo) cp ∧ (lo < hi → ∃ b, inf.blk = some b ∧ p = some ⟨b, lo * inf.sz, none⟩))
 (hk : K (.val (.tuple #[])) (h.set l { r with es := r.es.take lo ++ List.replicate (hi - lo) (z.cells.toList.map .val) ++ r.es.drop hi })) (hh : bM_ S w a o K next) : o.wp P a w next Q := by
 obtain ⟨k1, k2, k3, k4⟩ := hm.rows l inf r p1 e3
 obtain ⟨p, cp, hx, hp⟩ := hxv
 have hexec : (execOp a.eval o).run P w = ((Builtin.clear_ #[ty] o.type #[a.eval x]).run P w).andThen fun v w' => .ok (.value v) w' := by
  simp [execOp, hop, resolve, hc, ha, ht, invoke, builtin]
 by_cases h0 : hi - lo = 0
 ·have hlh : lo = hi := by omega
  subst hlh
  rw [h0] at hx
  have hrun : (execOp a.eval o).run P w = .ok (.value (.tuple #[])) w := by
   rw [hexec, hx]
   cases p <;> simp [Builtin.clear_, run_underlying hu]
  refine aW_ hrun (hh _ (.val (.tuple #[])) S _ _ (a8_.refl _ _) hm (by simp [Rep]) ?_)
  have : r.es.take lo ++ List.replicate (lo - lo) (z.cells.toList.map AV.val) ++ r.es.drop lo = r.es := by simp
  rw [this, gO_ e3] at hk
  exact hk
 ·obtain ⟨b, hb, hpp⟩ := hp (by omega)
  subst hpp
  rw [hb] at k4
  have hne : r.es ≠ [] := by intro q; rw [q] at g1; simp at g1; omega
  obtain ⟨E', cc, hE', ⟨fr, j2, hfr⟩, j3, j4, j5, j6⟩ := k4.2.cells (.inl hne)
  have hEe : E' = e := by
   rw [g2] at hE'
   rcases hE' with (q | q) | ⟨q, _⟩
   ·injection q with q; exact q.symm
   ·cases q
   ·cases q
  subst hEe
  rw [g2] at hfr
  obtain rfl : fr = (0, 0) := hfr
  have hzl : (Builtin.zeroCells z.cells (hi - lo)).toList.length = (hi - lo) * i.size := by simp [size_zeroCells, hzs]
  have hbound : lo * inf.sz + 0 + (Builtin.zeroCells z.cells (hi - lo)).toList.length ≤ cc.size := by
   rw [hzl, j4, k2, g3, Nat.add_zero, ← Nat.add_mul]; exact Nat.mul_le_mul_right _ (by omega)
  have hone : ∀ v ∈ (Builtin.zeroCells z.cells (hi - lo)).toList, v.oneCell' = true := by
   intro v hv
   simp only [Builtin.zeroCells, Array.toList_map, mem_map, Array.mem_toList_iff, Array.mem_range] at hv
   obtain ⟨j, hj, e1⟩ := hv
   have hpos : 0 < z.cells.size := by
    rcases Nat.eq_zero_or_pos z.cells.size with q | q
    ·rw [q] at hj; simp at hj
    ·exact q
   have hlt : j % z.cells.size < z.cells.size := Nat.mod_lt _ hpos
   rw [getElem!_pos z.cells _ hlt] at e1
   subst e1
   exact hz1 _ (by simp)
  have hst := run_storeCells_at (P := P) b (lo * inf.sz) E' (Builtin.zeroCells z.cells (hi - lo)).toList 0 cc w j2 hbound hone
  simp only [Nat.add_zero] at hst
  obtain ⟨m, hmm⟩ : ∃ m, hi - lo = m + 1 := ⟨hi - lo - 1, by omega⟩
  have hrun : (execOp a.eval o).run P w = .ok (.value (.tuple #[])) (w.setRow b (cc.toList.take (lo * inf.sz) ++ (Builtin.zeroCells z.cells (hi - lo)).toList ++ cc.toList.drop (lo * inf.sz + (Builtin.zeroCells z.cells (hi - lo)).toList.length)).toArray) := by
   rw [hexec, hx]
   rw [hmm] at hst ⊢
   simp [Builtin.clear_, run_underlying hu, zeroValue, dJ_ hii, hz] at hst ⊢
   simp [hst]
  have hrz : am_ S (List.replicate (hi - lo) (z.cells.toList.map .val)) (Builtin.zeroCells z.cells (hi - lo)).toList := by
   have := hY_ (S := S) z.cells (hi - lo)
   exact this
  have hdl : ∀ d ∈ List.replicate (hi - lo) (z.cells.toList.map AV.val), d.length = r.sz := by
   intro d hd; rw [eq_of_mem_replicate hd, g3, hzs]; simp
  have hsp := gJ_ (p := lo) (es2 := List.replicate (hi - lo) (z.cells.toList.map .val)) k3 j3 (by simp only [Array.length_toList]; rw [j4, ← k1, k2]; exact Nat.mul_le_mul_right _ j5) hdl hrz (by rw [hzl, g3]; simp) (by simp; omega)
  rw [length_replicate, show lo + (hi - lo) = hi by omega] at hsp
  have hset := ae_.set (w' := w.setRow b (cc.toList.take (lo * inf.sz) ++ (Builtin.zeroCells z.cells (hi - lo)).toList ++ cc.toList.drop (lo * inf.sz + (Builtin.zeroCells z.cells (hi - lo)).toList.length)).toArray) hm (.inl (.inl g2)) p1 e3 hb
   (es' := r.es.take lo ++ List.replicate (hi - lo) (z.cells.toList.map .val) ++ r.es.drop hi) (c' := (cc.toList.take (lo * inf.sz) ++ (Builtin.zeroCells z.cells (hi - lo)).toList ++ cc.toList.drop (lo * inf.sz + (Builtin.zeroCells z.cells (hi - lo)).toList.length)).toArray)
   (by simp; omega) (by rw [k2]; simpa using hsp)
   (by
     intro d hd
     rcases mem_append.1 hd with q | q
     ·rcases mem_append.1 q with q | q
      ·exact k3 d (mem_of_mem_take q)
      ·exact hdl d q
     ·exact k3 d (mem_of_mem_drop q))
   (by
     rw [← j4]
     simp only [size_toArray, List.length_append, length_drop, Array.length_toList, length_take] at hbound ⊢
     omega) ⟨(0, 0), setRow_heap w b cc _ E' _ j2, .zero _ _⟩ (fun q hq => setRow_other w b q _ hq) (setRow_size _ _ _) rfl rfl rfl
  exact aW_ hrun (hh _ _ _ _ _ hset.2 hset.1 (by simp [Rep]) hk)
theorem ko_ {c : Call} {x y : Operand} {ty tn e : TypeId} {kn kq : IntKind} {i : TypeInfo} {z : Value} {l n m k : Nat} {r : Row} (hop : o.op = .call c) (hc : c.callee = .builtin .append) (ha : c.args = #[x, y]) (ht : c.argTypes = #[ty, tn])
 (hu : P.underlying ty = some (.slice e)) (hn : P.underlying tn = some (.int kn)) (hi : P.info? e = some i) (hz : i.zero = some z) (hzs : i.size = z.cells.size) (hpos : 0 < i.size) (hm : ae_ S h w) (hr : Rel S N t a) (hx : aj_ N x = true) (hy : aj_ N y = true)
 (e1 : ak_ t x = .sub l n 0 m) (e2 : ak_ t y = .val (.int kq k)) (e3 : h[l]? = some r) (g1 : r.es.length = n) (g2 : r.E = .full e) (g3 : r.sz = i.size) (hmn : m ≤ n) (hgr : n < m + k) (g4 : (m + k) * i.bytes ≤ 140737488355328) (g5 : m + k ≤ 9223372036854775807)
 (hk : K (.own h.length (m + k)) (h ++ [⟨.ty e, i.size, r.es.take m ++ List.replicate k (z.cells.toList.map .val)⟩])) (hh : bM_ S w a o K next) : o.wp P a w next Q := by
 have rx := hr.eval hx
 have ry := hr.eval hy
 rw [e1] at rx
 rw [e2] at ry
 simp only [Rep] at rx ry
 obtain ⟨_, inf, p1, p2, p3⟩ := rx
 obtain ⟨k1, k2, k3, k4⟩ := hm.rows l inf r p1 e3
 obtain ⟨_, _, hxv⟩ := p3 (by omega)
 have hexec : (execOp a.eval o).run P w = ((Builtin.append_ #[ty, tn] o.type #[a.eval x, a.eval y]).run P w).andThen fun v w' => .ok (.value v) w' := by
  simp [execOp, hop, resolve, hc, ha, ht, invoke, builtin]
 have hcnt : 0 < k := by omega
 have hzl : (Builtin.zeroCells z.cells k).toList.length = k * i.size := by simp [size_zeroCells, hzs]
 have hzr : am_ S (List.replicate k (z.cells.toList.map .val)) (Builtin.zeroCells z.cells k).toList := hY_ (S := S) z.cells k
 have hel : ∀ d ∈ List.replicate k (z.cells.toList.map AV.val), d.length = i.size := by
  intro d hd; rw [eq_of_mem_replicate hd, hzs]; simp
 have hT : ∀ d ∈ r.es.take m, d.length = i.size := fun d hd => by rw [← g3]; exact k3 d (mem_of_mem_take hd)
 have hTl : (r.es.take m).length = m := by simp; omega
 have hh1 : ∀ d ∈ r.es.take m ++ List.replicate k (z.cells.toList.map AV.val), d.length = i.size := by
  intro d hd
  rcases mem_append.1 hd with q | q
  ·exact hT d q
  ·exact hel d q
 have hlen' : (r.es.take m ++ List.replicate k (z.cells.toList.map AV.val)).length = m + k := by rw [List.length_append, hTl, length_replicate]
 have grown : ∀ (olds : List Value) (old : Nat), old < m + k → olds.length = m * i.size → am_ S (r.es.take m) olds →
  (execOp a.eval o).run P w = .ok (.value (.slice (some ⟨w.heap.size, 0, none⟩) (m + k) (grownCap w (m + k) old e)))
   (w.drew.alloc (.cells (olds.toArray ++ Builtin.zeroCells z.cells k ++ Builtin.zeroCells z.cells (grownCap w (m + k) old e - (m + k))) e)) →
  o.wp P a w next Q := by
  intro olds old ho hol hor hrun
  have hge := grownCap_ge w (m + k) old e
  have hcm := grownCap_le_maxLen w (m + k) old e (by simp [maxLen]; omega)
  have hoz : olds.length = (r.es.take m).length * i.size := by rw [hol, hTl]
  have hg := ae_.new (w' := w.drew.alloc (.cells (olds.toArray ++ Builtin.zeroCells z.cells k ++ Builtin.zeroCells z.cells (grownCap w (m + k) old e - (m + k))) e)) hm (E := e) (sz := i.size) (es := r.es.take m ++ List.replicate k (z.cells.toList.map .val))
   (cap := grownCap w (m + k) old e) (c := olds.toArray ++ Builtin.zeroCells z.cells k ++ Builtin.zeroCells z.cells (grownCap w (m + k) old e - (m + k)))
   (by
     have := dQ_ (Builtin.zeroCells z.cells (grownCap w (m + k) old e - (m + k))).toList hh1 (cD_ (sz := i.size) hT hel hoz hor hzr)
     simpa using this)
   hh1
   (by
     simp only [Array.size_append, size_toArray, size_zeroCells, ← hzs, hol, ← Nat.add_mul]
     congr 1
     omega)
   (by rw [hlen']; omega) hcm rfl rfl rfl rfl
  rw [hlen'] at hg
  refine aW_ hrun (hh _ _ _ _ _ hg.2 hg.1 ?_ hk)
  rw [← hm.len]
  exact dU_ S _ _ _ _ _
 have hk48 : k * i.bytes ≤ 281474976710656 := by
  have : k * i.bytes ≤ (m + k) * i.bytes := Nat.mul_le_mul_right _ (by omega)
  omega
 rcases hxv with ⟨hb, p, hxv⟩ | ⟨b, off, hb, hxv, hoff⟩
 ·rw [hb] at k4
  have hn0 : n = 0 := by rw [← g1, k4.1]; rfl
  have hm0 : m = 0 := by omega
  subst hn0 hm0
  refine grown [] 0 (by omega) (by simp) (by simp [am_]) ?_
  have hold : (Builtin.firstCells i.size 0 (.slice p 0 0)).run P w.drew = .ok ([] : List Value).toArray w.drew := by
   cases p <;> simp [Builtin.firstCells, loadCells, loadCellsFrom]
  have hr2 := Lib.run_append_grow_zeros (P := P) w ty tn o.type e i z kq kn hu hn hi hz p 0 0 [] hold k hcnt hpos (by omega) (by omega) hk48 (growslice_fits (by omega) g4)
  rw [hexec, hxv, ry, hr2]; rfl
 ·rw [hb] at k4
  obtain ⟨E', cc, hE', ⟨fr, j2, hfr⟩, j3, j4, j5, j6⟩ := k4.2.cells (.inr (by omega))
  have hcap : inf.cap = n := by
   rcases hE' with (q | q) | ⟨q, q2⟩
   ·rw [g2] at q; cases q
   ·rw [g2] at q; cases q
   ·omega
  have hcs : cc.size = n * i.size := by rw [j4, k2, g3, hcap]
  have hsize2 : m * i.size ≤ cc.size := by rw [hcs]; exact Nat.mul_le_mul_right _ (by omega)
  have h3 : am_ S (r.es.take m) (cc.toList.take (m * i.size)) := cB_ hT (am_.take j3) (by rw [hTl]; omega)
  have hol : (cc.toList.take (m * i.size)).length = m * i.size := by simp; omega
  have holds : ∀ j u, (cc.toList.take (m * i.size))[j]? = some u → w.drew.cell? ((⟨b, off, none⟩ : Addr).add j) = some u := by
   intro j u hj
   rw [getElem?_take] at hj
   split at hj
   ·rename_i hjm
    have hm0 : 0 < m := by
     rcases Nat.eq_zero_or_pos m with q | q
     ·subst q; simp at hjm
     ·exact q
    rw [bY_, hoff (by omega)]
    have : cc[j]? = some u := by simpa using hj
    have j2' : w.drew.heap[b]? = some (.cells cc E' fr) := j2
    simp [World.cell?, j2', this]
   ·simp at hj
  have hold : (Builtin.firstCells i.size m (.slice (some ⟨b, off, none⟩) m inf.cap)).run P w.drew = .ok (cc.toList.take (m * i.size)).toArray w.drew := by
   have := run_loadCells_list (P := P) w.drew ⟨b, off, none⟩ _ holds
   rw [hol] at this
   simpa [Builtin.firstCells] using this
  have hr2 := Lib.run_append_grow_zeros (P := P) w ty tn o.type e i z kq kn hu hn hi hz (some ⟨b, off, none⟩) m inf.cap _ hold k hcnt hpos (by omega) (by omega) hk48 (growslice_fits (by omega) g4)
  refine grown (cc.toList.take (m * i.size)) inf.cap (by omega) hol h3 ?_
  simp only [Nat.sub_zero] at hxv
  rw [hexec, hxv, ry, hr2]; rfl
theorem rE_ {ty : TypeId} (hop : o.op = .makeMap ty none) (hm : ae_ S h w) (hk : K (.mp h.length) (h ++ [⟨.map [], 0, []⟩])) (hh : bM_ S w a o K next) : o.wp P a w next Q := by
 have hrun : (execOp a.eval o).run P w = .ok (.value (.map (some w.heap.size))) (w.alloc (.map #[] 0)) := by
  simp [execOp, hop, Instr.makeMap, newObj, Sem.run]
 have hnew := ae_.newRow (w' := w.alloc (.map #[] 0)) hm (E := .map []) (sz := 0) (cap := 0) (es := []) (by simp) ⟨rfl, rfl, #[], 0, by show (w.heap.push _)[w.heap.size]? = _; simp, rfl⟩ rfl rfl rfl rfl
 refine aW_ hrun (hh _ _ _ _ _ hnew.2 hnew.1 ?_ hk)
 rw [← hm.len]
 simp only [Rep]
 exact ⟨⟨_, rfl⟩, ⟨0, some w.heap.size, 0, 0⟩, by simp, fun _ => ⟨_, rfl, rfl⟩⟩
theorem p2_ {ty kt et : TypeId} {m k v : Operand} {l : Nat} {n : Int} {u : Value} {r : Row} {ents : List (Int × Value)} (hop : o.op = .mapUpdate ty m k v) (hu : P.underlying ty = some (.map kt et)) (hkt : P.underlying kt = some (.int .i64)) (hm : ae_ S h w) (hr : Rel S N t a)
 (h1 : aj_ N m = true) (h2 : aj_ N k = true) (h3 : aj_ N v = true) (e1 : ak_ t m = .mp l) (e2 : ak_ t k = .val (.int .i64 n)) (e3 : ak_ t v = .val u) (e4 : h[l]? = some r) (hE : r.E = .map ents)
 (hk : K (.val Go.undef) (h.set l ⟨.map (eI_ ents n u), 0, []⟩)) (hh : bM_ S w a o K next) : o.wp P a w next Q := by
 have r1 := hr.eval h1
 have r2 := hr.eval h2
 have r3 := hr.eval h3
 rw [e1] at r1; rw [e2] at r2; rw [e3] at r3
 simp only [Rep] at r1 r2 r3
 obtain ⟨_, inf, q1, q3⟩ := r1
 obtain ⟨k1, k2, k3, k4⟩ := hm.rows l inf r q1 e4
 have hes : r.es = [] := by
  cases hb : inf.blk with
  | none => rw [hb] at k4; exact k4.1
  | some b => rw [hb] at k4; have := k4.2; unfold ba_ at this; rw [hE] at this; exact this.1
 obtain ⟨b, hb, hxx⟩ := q3 (by rw [k1, hes]; rfl)
 rw [hb] at k4
 have hst := k4.2
 unfold ba_ at hst
 rw [hE] at hst
 obtain ⟨_, hsz0, arr, clock, hw, hents⟩ := hst
 obtain ⟨f, f1, f2, f3⟩ := hB_ arr.toList ents n 0 hents
 have hg : (getObj b).run P w = .ok (.map arr clock) w := by simp [getObj, Sem.run, hw]
 have hck : (Instr.checkKey false 10000 kt (.int .i64 n)).run P w = .ok () w := iH_ hkt false 9999 n
 have hfk : (Instr.findKey kt (.int .i64 n) arr.toList).run P w = .ok f w := by simp [Instr.findKey, run_underlying hkt, f1]
 have hset : ∀ ob, (setObj b ob).run P w = .ok () { w with heap := w.heap.setIfInBounds b ob } := by intro ob; simp [setObj, Sem.run, hw]
 have key : ∀ (arr' : Array MapEntry) (clock' : Nat), (execOp a.eval o).run P w = .ok .skip { w with heap := w.heap.setIfInBounds b (.map arr' clock') } → arr'.toList.map (fun e => (e.key, e.val)) = (eI_ ents n u).map (fun p => (Value.int .i64 p.1, p.2)) → o.wp P a w next Q := by
  intro arr' clock' hrun hl
  have hlt := (Array.getElem?_eq_some_iff.1 hw).1
  have hput := ae_.putRow (w' := { w with heap := w.heap.setIfInBounds b (.map arr' clock') }) (r' := ⟨.map (eI_ ents n u), 0, []⟩) hm q1 e4 hb (by rw [hes]) hsz0.symm (by simp)
   ⟨rfl, rfl, arr', clock', by simp [hlt], hl⟩ (fun q hq => by simp [Array.getElem?_setIfInBounds, Ne.symm hq]) (by simp) rfl rfl rfl
  exact ij_ hrun (hh _ _ _ _ _ hput.2 hput.1 (by simp [Rep]) hk)
 cases f with
 | none =>
  simp only [Option.map_none] at f2
  refine key (arr.push { key := .int .i64 n, val := u, born := clock }) (clock + 1) ?_ ?_
  ·simp [execOp, hop, Instr.mapUpdate, run_underlying hu, hxx, r2, r3, hg, hck, hfk, hset]
  ·simp only [Array.toList_push, map_append, map_cons, map_nil, hents]
   have : ∀ (l : List (Int × Value)), l.lookup n = none → eI_ l n u = l ++ [(n, u)] := by
    intro l
    induction l with
    | nil => intro _; rfl
    | cons p l ih =>
     obtain ⟨c, d⟩ := p
     intro hl
     simp only [List.lookup] at hl
     split at hl
     ·simp at hl
     ·rename_i hne
      have : ¬ c = n := by intro e; subst e; simp at hne
      simp [eI_, this, ih hl]
   rw [this ents f2.symm]; simp
 | some p =>
  obtain ⟨j, d⟩ := p
  obtain ⟨c, e', c1, c2, c3, c4⟩ := f3 j d rfl
  have hj : j = c := by omega
  subst hj
  refine key (arr.modify j fun e => { e with key := .int .i64 n, val := u }) clock ?_ ?_
  ·have ha : arr[j]? = some e' := by simpa using c2
   have hks : (Instr.keyThatStays (.int .i64 n) (.int .i64 n)).run P w = .ok (.int .i64 n) w := by
    have : Instr.sameBits 10000 (.int .i64 n) (.int .i64 n) = true := by simp [Instr.sameBits]
    simp [Instr.keyThatStays, this]
   simp [execOp, hop, Instr.mapUpdate, run_underlying hu, hxx, r2, r3, hg, hck, hfk, ha, c3, hks, hset]
  ·rw [Array.toList_modify]; exact c4 u
def ci_ (s : ByteArray) : List Value := s.data.toList.map fun b => Value.int .u8 (b.toNat : Int)
theorem eD_ (s : ByteArray) : (ci_ s).length = s.size := by simp only [ci_, length_map, Array.length_toList]; rfl
theorem d9_ (w : World) (s : ByteArray) : (Builtin.firstCells 1 s.size (.string s)).run P w = .ok (ci_ s).toArray w := by
 have hx : (Array.map (fun b : UInt8 => Value.int IntKind.u8 (b.toNat : Int)) s.data).extract 0 s.size = (ci_ s).toArray := by
  have hs : s.size = (Array.map (fun b : UInt8 => Value.int IntKind.u8 (b.toNat : Int)) s.data).size := by rw [Array.size_map]; rfl
  rw [hs, Array.extract_size]
  apply Array.ext'
  simp [ci_]
 have hx2 : Array.map (fun b : UInt8 => Value.int IntKind.u8 (b.toNat : Int)) s.data = (ci_ s).toArray := by
  apply Array.ext'
  simp [ci_]
 simp [Builtin.firstCells, hx2, hx]
theorem jQ_ (w : World) (t u ty e : TypeId) (i : TypeInfo) (ht : P.underlying t = some (.slice e)) (hu : P.underlying u = some .string) (hi : P.info? e = some i) (h1 : i.size = 1) (g n cap : Nat) (fr : Nat × Nat) (cur : Array Value) (hg : w.heap[g]? = some (.cells cur e fr))
 (hf : ∀ k, k < cur.size → ¬ (fr.1 ≤ k ∧ k < fr.2)) (s : ByteArray) (hr : n + s.size ≤ cap) (hfit : n + s.size ≤ cur.size) :
 (Builtin.append_ #[t, u] ty #[.slice (some ⟨g, 0, none⟩) n cap, .string s]).run P w = .ok (.slice (some ⟨g, 0, none⟩) (n + s.size) cap) (w.setRow g (cur.toList.take n ++ ci_ s ++ cur.toList.drop (n + s.size)).toArray) := by
 have hst := eF_ (P := P) g n e fr (ci_ s) 0 cur w hg hf (by rw [eD_]; omega) (by intro v hv; obtain ⟨b, _, q⟩ := mem_map.1 hv; subst q; rfl)
 simp only [Nat.add_zero, eD_] at hst
 simp [Builtin.append_, run_underlying ht, run_underlying hu, sizeOf, typeInfo, hi, h1, Builtin.lenOf, hr, d9_, Addr.add_lit, hst]
theorem jU_ (w : World) (t u ty e : TypeId) (i : TypeInfo) (ht : P.underlying t = some (.slice e)) (hu : P.underlying u = some .string) (hi : P.info? e = some i) (h1 : i.size = 1) (p : Option Addr) (s : ByteArray) (h0 : s.size = 0) :
 (Builtin.append_ #[t, u] ty #[.slice p 0 0, .string s]).run P w = .ok (.slice p 0 0) w := by
 have hv : ci_ s = [] := eq_nil_of_length_eq_zero (by rw [eD_]; exact h0)
 have hf := d9_ (P := P) w s
 rw [h0, hv] at hf
 cases p <;> simp [Builtin.append_, run_underlying ht, run_underlying hu, sizeOf, typeInfo, hi, h1, Builtin.lenOf, h0, hf, storeCells]
theorem jW_ (w : World) (t u ty e : TypeId) (i : TypeInfo) (z : Value) (ht : P.underlying t = some (.slice e)) (hu : P.underlying u = some .string) (hi : P.info? e = some i) (hz : i.zero = some z) (h1 : i.size = 1) (hby : i.bytes = 1) (p : Option Addr) (n cap : Nat) (olds : List Value)
 (hold : (Builtin.firstCells 1 n (.slice p n cap)).run P w.drew = .ok olds.toArray w.drew) (s : ByteArray) (hg : cap < n + s.size) (h47 : n + s.size ≤ 140737488355328) :
 (Builtin.append_ #[t, u] ty #[.slice p n cap, .string s]).run P w =
  .ok (.slice (some ⟨w.heap.size, 0, none⟩) (n + s.size) (grownCap w (n + s.size) cap e)) (w.drew.alloc (.cells (olds.toArray ++ (ci_ s).toArray ++ Builtin.zeroCells z.cells (grownCap w (n + s.size) cap e - (n + s.size))) e)) := by
 have hn : ¬ (n + s.size ≤ cap) := by omega
 have h63' : ¬ (9223372036854775807 < ((n : Int) + (s.size : Int))) := by omega
 have hfit : Builtin.nextslicecap (n + s.size) cap * i.bytes ≤ 281474976710656 := growslice_fits hg (by rw [hby]; omega)
 have h48' : ¬ (281474976710656 < Builtin.nextslicecap (n + s.size) cap * i.bytes) := by omega
 have hfn := d9_ (P := P) w.drew s
 simp [Builtin.append_, run_underlying ht, run_underlying hu, sizeOf, typeInfo, zeroValue, hi, hz, h1, Builtin.lenOf, hn, h63', h48', Question.forced, hfn, hold, newRow, grownCap]
 congr 2
 apply Array.ext'
 simp [append_assoc]
theorem oP_ {c : Call} {x y : Operand} {ty tu e : TypeId} {i : TypeInfo} {z : Value} {l n : Nat} {s : ByteArray} {r : Row} (hop : o.op = .call c) (hc : c.callee = .builtin .append) (ha : c.args = #[x, y]) (ht : c.argTypes = #[ty, tu])
 (hu : P.underlying ty = some (.slice e)) (hus : P.underlying tu = some .string) (hi : P.info? e = some i) (hz : i.zero = some z) (h1 : i.size = 1) (hzs : z.cells.size = 1) (hby : i.bytes = 1) (hm : ae_ S h w) (hr : Rel S N t a) (hx : aj_ N x = true) (hy : aj_ N y = true)
 (q1 : ak_ t x = .own l n) (q2 : ak_ t y = .val (.string s)) (q3 : h[l]? = some r) (w1 : r.E = .byt e) (w2 : r.sz = 1) (w3 : r.es.length = n) (w4 : n + s.size ≤ 140737488355328)
 (hk : K (.own l (n + s.size)) (h.set l { r with es := r.es ++ aA_ s.data.toList })) (hh : bM_ S w a o K next) : o.wp P a w next Q := by
 have rx := hr.eval hx
 rw [q1] at rx
 simp only [Rep] at rx
 obtain ⟨_, inf, p1, p2, p3⟩ := rx
 have ry := hr.eval hy
 rw [q2] at ry
 simp only [Rep] at ry
 obtain ⟨k1, k2, k3, k4⟩ := hm.rows l inf r p1 q3
 have hxv := p3 (by omega)
 have hexec : (execOp a.eval o).run P w = ((Builtin.append_ #[ty, tu] o.type #[a.eval x, .string s]).run P w).andThen fun v w' => .ok (.value v) w' := by
  simp [execOp, hop, resolve, hc, ha, ht, invoke, builtin, ry]
 have hbl : (aA_ s.data.toList).length = s.size := by
  simp only [aA_, length_map, Array.length_toList]; rfl
 have hall : ∀ d ∈ aA_ s.data.toList, d.length = 1 := by
  intro d hd; obtain ⟨x, _, q⟩ := mem_map.1 hd; subst q; rfl
 have hrep : am_ S (aA_ s.data.toList) (ci_ s) := by
  rw [bz_ hall]
  intro i d hd j c hc
  simp only [aA_, getElem?_map, Option.map_eq_some_iff] at hd
  obtain ⟨x, hx', e1⟩ := hd
  subst e1
  cases j with
  | succ j => simp at hc
  | zero =>
   simp at hc; subst hc
   exact ⟨.int .u8 x.toNat, by simp [ci_, hx'], by simp [Rep]⟩
 have hlen' : ∀ d ∈ r.es ++ aA_ s.data.toList, d.length = r.sz := by
  intro d hd
  rcases mem_append.1 hd with q | q
  ·exact k3 d q
  ·rw [w2]; exact hall d q
 have hel : (r.es ++ aA_ s.data.toList).length = n + s.size := by rw [List.length_append, w3, hbl]
 have same : s.size = 0 → ∀ v, Rep S (.own l n) v → (execOp a.eval o).run P w = .ok (.value v) w → o.wp P a w next Q := by
  intro h0 v rv hrun
  have hn : aA_ s.data.toList = [] := eq_nil_of_length_eq_zero (by rw [hbl]; exact h0)
  rw [hn, append_nil, gO_ q3, h0, Nat.add_zero] at hk
  exact aW_ hrun (hh _ _ S _ _ (a8_.refl _ _) hm rv hk)
 have grown : ∀ (p : Option Addr) (cap : Nat) (olds : List Value), a.eval x = .slice p n cap → olds.length = n → am_ S r.es olds → (Builtin.firstCells 1 n (.slice p n cap)).run P w.drew = .ok olds.toArray w.drew → cap < n + s.size → 0 < s.size → o.wp P a w next Q := by
  intro p cap olds hxe hol hor hold hg hpos
  have hrun := jW_ (P := P) w ty tu o.type e i z hu hus hi hz h1 hby p n cap olds hold s hg w4
  have hge := grownCap_ge w (n + s.size) cap e
  have hcm := grownCap_le_maxLen w (n + s.size) cap e (by simp [maxLen]; omega)
  have hgr := ae_.grow (w' := w.drew.alloc (.cells (olds.toArray ++ (ci_ s).toArray ++ Builtin.zeroCells z.cells (grownCap w (n + s.size) cap e - (n + s.size))) e)) hm (.inr w1) p1 q3 (es' := r.es ++ aA_ s.data.toList)
   (b := w.heap.size) (cap := grownCap w (n + s.size) cap e) (c' := olds.toArray ++ (ci_ s).toArray ++ Builtin.zeroCells z.cells (grownCap w (n + s.size) cap e - (n + s.size)))
   hlen' (by rw [hel]; omega)
   (by
     have := dQ_ (Builtin.zeroCells z.cells (grownCap w (n + s.size) cap e - (n + s.size))).toList hlen' (cD_ (sz := r.sz) k3 (by rw [w2]; exact hall) (by rw [hol, w3, w2, Nat.mul_one]) hor hrep)
     simpa using this)
   (by
     simp only [Array.size_append, size_toArray, size_zeroCells, hzs, hol, eD_, w2, Nat.mul_one]
     omega)
   (by rw [hel]; omega) hcm (.inr rfl) ⟨(0, 0), heap_alloc_new w.drew _, .zero _ _⟩ (fun q hq _ => heap_alloc_old w.drew _ q hq) (by simp) rfl rfl rfl
  rw [hel] at hgr
  refine aW_ (v := .slice (some ⟨w.heap.size, 0, none⟩) (n + s.size) (grownCap w (n + s.size) cap e)) ?_ (hh _ _ _ _ _ hgr.2 hgr.1 (eQ_ p1) hk)
  rw [hexec, hxe, hrun]; rfl
 have rxx := hr.eval hx
 rw [q1] at rxx
 cases hb : inf.blk with
 | none =>
  rw [hb] at k4
  have hn0 : n = 0 := by rw [← w3, k4.1]; rfl
  subst hn0
  have hes : r.es = [] := k4.1
  obtain ⟨p, hp⟩ : ∃ p, a.eval x = .slice p 0 0 := by
   rcases hxv with q | ⟨_, p, q⟩
   ·exact ⟨none, by simpa [sliceAt, hb] using q⟩
   ·exact ⟨p, q⟩
  by_cases h0 : s.size = 0
  ·refine same h0 _ rxx ?_
   rw [hexec, hp, jU_ w ty tu o.type e i hu hus hi h1 p s h0]; rfl
  ·refine grown p 0 [] hp rfl (by rw [hes]; simp [am_]) ?_ (by omega) (by omega)
   cases p <;> simp [Builtin.firstCells, loadCells, loadCellsFrom]
 | some b =>
  rw [hb] at k4
  have hst := k4.2
  rw [ba_.byt w1] at hst
  obtain ⟨cc, fr, ⟨j2, hfr⟩, j3, j4, j5, j6⟩ := hst
  have hfr' : frT r.E cc fr := by rw [w1]; exact hfr
  have hcs : cc.size = inf.cap := by rw [j4, k2, w2, Nat.mul_one]
  have hlen : inf.len = n := by omega
  simp only [sliceAt, hb, reduceCtorEq, false_and, or_false] at hxv
  rw [hlen] at hxv
  by_cases hroom : n + s.size ≤ inf.cap
  ·have hrun := jQ_ (P := P) w ty tu o.type e i hu hus hi h1 b n inf.cap fr cc j2 (fun k hk => hfr'.free k hk) s hroom (by omega)
   by_cases h0 : s.size = 0
   ·refine same h0 _ rxx ?_
    have hv : ci_ s = [] := eq_nil_of_length_eq_zero (by rw [eD_]; exact h0)
    rw [hexec, hxv, hrun, hv, h0, append_nil, Nat.add_zero, take_append_drop, Array.toArray_toList, setRow_self w b cc e fr j2]
    rfl
   ·have hcsz : (cc.toList.take n ++ ci_ s ++ cc.toList.drop (n + s.size)).toArray.size = cc.size := by
     simp only [size_toArray, List.length_append, length_drop, Array.length_toList, length_take, eD_]
     omega
    have hgr := ae_.grow (w' := w.setRow b (cc.toList.take n ++ ci_ s ++ cc.toList.drop (n + s.size)).toArray) hm (.inr w1) p1 q3 (es' := r.es ++ aA_ s.data.toList)
     (b := b) (cap := inf.cap) (c' := (cc.toList.take n ++ ci_ s ++ cc.toList.drop (n + s.size)).toArray) hlen' (by rw [hel]; omega)
     (by
       have h3 : am_ S r.es (cc.toList.take n) := by
        have := cB_ (sz := r.sz) k3 j3 (n := n) (by rw [w3, w2, Nat.mul_one]; exact Nat.le_refl _)
        exact this
       have := dQ_ (cc.toList.drop (n + s.size)) hlen' (cD_ (sz := r.sz) k3 (by rw [w2]; exact hall) (by rw [w2, w3]; simp; omega) h3 hrep)
       simpa using this)
     (by rw [hcsz, hcs, w2, Nat.mul_one]) (by rw [hel]; omega) j6 (.inl hb) ⟨fr, setRow_heap w b cc _ e _ j2, hfr'.size hcsz⟩ (fun q _ hq => setRow_other w b q _ hq) (by simp) rfl rfl rfl
    rw [hel] at hgr
    refine aW_ (v := .slice (some ⟨b, 0, none⟩) (n + s.size) inf.cap) ?_ (hh _ _ _ _ _ hgr.2 hgr.1 (eQ_ p1) hk)
    rw [hexec, hxv, hrun]; rfl
  ·have hol : (cc.toList.take n).length = n := by simp; omega
   have holds : ∀ j u, (cc.toList.take n)[j]? = some u → w.drew.cell? ((⟨b, 0, none⟩ : Addr).add j) = some u := by
    intro j u hj
    rw [getElem?_take] at hj
    split at hj
    ·rw [bY_, Nat.zero_add]
     have : cc[j]? = some u := by simpa using hj
     have j2' : w.drew.heap[b]? = some (.cells cc e fr) := j2
     simp [World.cell?, j2', this]
    ·simp at hj
   refine grown (some ⟨b, 0, none⟩) inf.cap (cc.toList.take n) hxv hol ?_ ?_ (by omega) (by omega)
   ·exact cB_ (sz := r.sz) k3 j3 (n := n) (by rw [w3, w2, Nat.mul_one]; exact Nat.le_refl _)
   ·have := run_loadCells_list (P := P) w.drew ⟨b, 0, none⟩ _ holds
    rw [hol] at this
    simpa [Builtin.firstCells] using this
theorem ql_ {op : BinOp} {ty ty' e : TypeId} {x y : Operand} {neg : Bool} {p : Option Addr} {n c : Nat} (hop : o.op = .binOp op ty x y ty') (hy : y = .const (.slice none 0 0)) (hu : P.underlying ty = some (.slice e)) (ho : (op = .eql ∧ neg = false) ∨ (op = .neq ∧ neg = true)) (hx : a.eval x = .slice p n c) :
 (execOp a.eval o).run P w = .ok (.value (.bool (p.isNone != neg))) w := by
 subst hy
 have hg : ∀ op, (eqGuard op ty x (.const (.slice none 0 0)) (.slice p n c) (.slice none 0 0)).run P w = .ok () w := by
  intro op; unfold eqGuard; cases op <;> rfl
 have he : (Op.equal ty (.slice p n c) (.slice none 0 0)).run P w = .ok p.isNone w := by
  unfold Op.equal
  obtain ⟨d, hd⟩ : ∃ d, Op.maxDepth = d + 1 := ⟨_, rfl⟩
  rw [hd]
  unfold Op.equalIn
  cases p with
  | none => simp [run_underlying hu]
  | some q => simp [run_underlying hu]
 rcases ho with ⟨rfl, rfl⟩ | ⟨rfl, rfl⟩
 ·simp [execOp, hop, hx, show a.eval (.const (.slice none 0 0)) = .slice none 0 0 from rfl, hg, binOp, he]
 ·simp [execOp, hop, hx, show a.eval (.const (.slice none 0 0)) = .slice none 0 0 from rfl, hg, binOp, he]
theorem rL_ {op : BinOp} {ty ty' : TypeId} {x y : Operand} {neg : Bool} (hop : o.op = .binOp op ty x y ty') (hn : kP_ P op ty y = some neg) (hm : ae_ S h w) (hr : Rel S N t a) (hxo : aj_ N x = true) (hw : aZ_ P t h K (.isNil neg x)) (hh : bM_ S w a o K next) : o.wp P a w next Q := by
 obtain ⟨hy, ⟨e, hu⟩, ho⟩ := oh_ hn
 have rx := hr.eval hxo
 have fin : ∀ (p : Option Addr) (n c : Nat), a.eval x = .slice p n c → K (.val (.bool (p.isNone != neg))) h → o.wp P a w next Q := fun p n c hx hk =>
  aW_ (ql_ hop hy hu ho hx) (hh _ _ S h w (a8_.refl _ _) hm (by simp [Rep]) hk)
 simp only [aZ_] at hw
 split at hw
 ·rename_i tk sz es q1
  rw [q1] at rx
  simp only [Rep] at rx
  rcases rx with ⟨h1, _, p, c, q⟩ | ⟨b, off, cap, cc, q, _⟩
  ·exact fin _ _ _ q (hw _ fun _ => h1)
  ·exact fin _ _ _ q (hw _ fun hb => by simp at hb)
 ·rename_i l n q1
  rw [q1] at rx
  simp only [Rep] at rx
  obtain ⟨_, i, e1, e2, e3⟩ := rx
  split at hw
  ·rename_i r q2
   obtain ⟨k1, k2, k3, k4⟩ := hm.rows l i r e1 q2
   have hlen : n = i.len := by rw [k1, hw.1]
   rcases e3 hlen with q | ⟨hb, p, q⟩
   ·unfold sliceAt at q
    cases hblk : i.blk with
    | none =>
     rw [hblk] at q k4
     exact fin _ _ _ q (hw.2 _ fun _ => by rw [← hw.1, k4.1]; rfl)
    | some b =>
     rw [hblk] at q
     exact fin _ _ _ q (hw.2 _ fun hb => by simp at hb)
   ·rw [hb] at k4
    exact fin _ _ _ q (hw.2 _ fun _ => by rw [← hw.1, k4.1]; rfl)
  ·exact hw.elim
 ·rename_i q1
  rw [q1] at rx
  simp only [Rep] at rx
  exact fin _ _ _ rx (by simpa using hw)
 ·exact hw.elim
theorem p6_ {ty e : TypeId} {j : TypeInfo} {x lo hi mx : Operand} (hop : o.op = .slice ty x (some lo) (some hi) (some mx)) (hu : P.underlying ty = some (.slice e)) (hj : P.info? e = some j) (hm : ae_ S h w) (hr : Rel S N t a) (hmem : ∀ y ∈ [x, lo, hi, mx], aj_ N y = true) (hw : aZ_ P t h K (.slice3 x lo hi mx)) (hh : bM_ S w a o K next) : o.wp P a w next Q := by
 have rx := hr.eval (hmem x (by simp))
 simp only [aZ_] at hw
 split at hw
 ·rename_i l n u v c q1 q2 q3 q4
  rw [q1] at rx
  simp only [Rep] at rx
  obtain ⟨_, i, e1, e2, e3⟩ := rx
  split at hw
  ·rename_i r q5
   obtain ⟨w1, w2, w3, w4, w5⟩ := hw
   obtain ⟨k1, k2, k3, k4⟩ := hm.rows l i r e1 q5
   have hlen : n = i.len := by rw [k1, w1]
   have hx : ∃ p cap, a.eval x = .slice p n cap ∧ n ≤ cap := by
    rcases e3 hlen with q | ⟨hb, p, q⟩
    ·unfold sliceAt at q
     cases hblk : i.blk with
     | none =>
      rw [hblk] at q k4
      have : n = 0 := by rw [← w1, k4.1]; rfl
      subst this
      exact ⟨_, _, q, Nat.le_refl _⟩
     | some b =>
      rw [hblk] at q k4
      refine ⟨_, _, by rw [hlen]; exact q, ?_⟩
      by_cases hz : n = 0
      ·omega
      ·have hne : r.es ≠ [] := by intro q; rw [q] at w1; simp at w1; omega
       obtain ⟨_, cc, _, _, _, _, j5, _⟩ := k4.2.cells (.inl hne)
       omega
    ·rw [hb] at k4
     have : n = 0 := by rw [← w1, k4.1]; rfl
     subst this
     exact ⟨_, _, q, Nat.le_refl _⟩
   obtain ⟨p, cap, hx, hcap⟩ := hx
   have b1 := fun y hy code => dc_ (P := P) (w := w) hr (hmem lo (by simp)) q2 (y := y) hy code
   have b2 := fun y hy code => dc_ (P := P) (w := w) hr (hmem hi (by simp)) q3 (y := y) hy code
   have b3 := fun y hy code => dc_ (P := P) (w := w) hr (hmem mx (by simp)) q4 (y := y) hy code
   have hbs : (Instr.sliceBounds true n cap (some (a.eval lo)) (some (a.eval hi)) (some (a.eval mx))).run P w = .ok (u, v, c) w := by
    simp [Instr.sliceBounds, b1 v w2, b2 c w3, b3 cap (by omega)]
   have hrun : ∃ val, (execOp a.eval o).run P w = .ok (.value val) w := by
    simp only [execOp, hop, Instr.sliceAt, Instr.slice, hx, Option.map_some]
    simp [run_underlying hu, Instr.slice, hbs, bE_ hj]
   obtain ⟨val, hrun⟩ := hrun
   exact aW_ hrun (hh _ _ S h w (a8_.refl _ _) hm (by simp [Rep]) w5)
  ·exact hw.elim
 ·rename_i l n s0 s1 u v c q1 q2 q3 q4
  rw [q1] at rx
  simp only [Rep] at rx
  obtain ⟨_, i, e1, e2, e3⟩ := rx
  split at hw
  ·rename_i r q5
   obtain ⟨w1, w2, w3, w4, w5⟩ := hw
   obtain ⟨k1, k2, k3, k4⟩ := hm.rows l i r e1 q5
   have hlen : n = i.len := by rw [k1, w1]
   obtain ⟨g1, g2, g3⟩ := e3 hlen
   have hx : ∃ p cap, a.eval x = .slice p (s1 - s0) cap ∧ c ≤ cap := by
    rcases g3 with ⟨hb, p, q⟩ | ⟨b, off, hb, q, _⟩
    ·rw [hb] at k4
     have hn0 : n = 0 := by rw [← w1, k4.1]; rfl
     exact ⟨p, 0, by rw [q, show s1 - s0 = 0 by omega], by omega⟩
    ·rw [hb] at k4
     refine ⟨_, _, q, ?_⟩
     by_cases hz : n = 0
     ·omega
     ·have hne : r.es ≠ [] := by intro q; rw [q] at w1; simp at w1; omega
      obtain ⟨_, cc, _, _, _, _, j5, _⟩ := k4.2.cells (.inl hne)
      omega
   obtain ⟨p, cap, hx, hcap⟩ := hx
   have b1 := fun y hy code => dc_ (P := P) (w := w) hr (hmem lo (by simp)) q2 (y := y) hy code
   have b2 := fun y hy code => dc_ (P := P) (w := w) hr (hmem hi (by simp)) q3 (y := y) hy code
   have b3 := fun y hy code => dc_ (P := P) (w := w) hr (hmem mx (by simp)) q4 (y := y) hy code
   have hbs : (Instr.sliceBounds true (s1 - s0) cap (some (a.eval lo)) (some (a.eval hi)) (some (a.eval mx))).run P w = .ok (u, v, c) w := by
    simp [Instr.sliceBounds, b1 v w2, b2 c w3, b3 cap hcap]
   have hrun : ∃ val, (execOp a.eval o).run P w = .ok (.value val) w := by
    simp only [execOp, hop, Instr.sliceAt, Instr.slice, hx, Option.map_some]
    simp [run_underlying hu, Instr.slice, hbs, bE_ hj]
   obtain ⟨val, hrun⟩ := hrun
   exact aW_ hrun (hh _ _ S h w (a8_.refl _ _) hm (by simp [Rep]) w5)
  ·exact hw.elim
 ·exact hw.elim
theorem h4_ {lo : LOp} (hlow : av_ P o.op = some lo) (hok : ge_ N lo = true) (hm : ae_ S h w) (hgl : cY_ P S) (hr : Rel S N t a) (hw : aZ_ P t h K lo) (hh : bM_ S w a o K next) : o.wp P a w next Q := by
 have hmem := e6_ hok
 have pureCase : (∀ (x : Prop), (match ai_ t h lo with | some v => K v h | none => False) → o.wp P a w next Q) := by
  intro _ hq
  cases hv : ai_ t h lo with
  | none => rw [hv] at hq; exact hq.elim
  | some av =>
   rw [hv] at hq
   exact oj_ (j9_ hlow hok hm hr hv) hm hq hh
 cases hop : o.op with
 | alloc E =>
  simp only [hop, av_, Option.bind_eq_some_iff, Option.map_eq_some_iff] at hlow
  obtain ⟨i, h1, z, h2, e⟩ := hlow; subst e
  exact sd_ hop h1 h2 hm hw hh
 | box E x =>
  simp only [hop, av_, Option.some.injEq] at hlow; subst hlow
  simp only [aZ_] at hw
  split at hw
  ·rename_i cs hc
   exact uE_ hop hm hr (hmem x (by simp [LOp.operands])) hc hw hh
  ·exact hw.elim
 | store ty p x =>
  simp only [hop, av_, Option.map_eq_some_iff] at hlow
  obtain ⟨i, hi, e⟩ := hlow; subst e
  simp only [aZ_] at hw
  split at hw
  ·rename_i l k j off cs h1 h2
   split at hw
   ·rename_i r h3
    split at hw
    ·rename_i e h4
     obtain ⟨h5, h6, h7, h8⟩ := hw
     exact q1_ hop hi hm hr (hmem p (by simp [LOp.operands])) (hmem x (by simp [LOp.operands])) h1 h2 h3 h4 h5 h6 h7 h8 hh
    ·exact hw.elim
   ·exact hw.elim
  ·exact hw.elim
 | makeSlice ty l c =>
  simp only [hop, av_] at hlow
  split at hlow
  ·rename_i e hu
   simp only [Option.bind_eq_some_iff] at hlow
   obtain ⟨i, hi, z, hz, e1⟩ := hlow
   split at e1
   ·rename_i hcond
    simp only [Option.some.injEq] at e1; subst e1
    simp only [aZ_] at hw
    split at hw
    ·rename_i k n k' m q1 q2
     obtain ⟨w1, w2, w3, w4, w5⟩ := hw
     subst w1
     exact pT_ hop hu hi hz hcond.1 hcond.2 hm hr (hmem l (by simp [LOp.operands])) (hmem c (by simp [LOp.operands])) q1 q2 w2 w3 w4 w5 hh
    ·exact hw.elim
   ·simp at e1
  ·simp at hlow
 | buildSlice ty len parts =>
  simp only [hop, av_] at hlow
  split at hlow
  ·rename_i e hu
   simp only [Option.bind_eq_some_iff] at hlow
   obtain ⟨i, hi, z, hz, e1⟩ := hlow
   split at e1
   ·rename_i hcond
    simp only [Option.some.injEq] at e1; subst e1
    simp only [aZ_] at hw
    obtain ⟨w1, w2⟩ := hw
    split at w2
    ·rename_i es q1
     exact mh_ hop hu hi hz hcond.1 hcond.2.1 hcond.2.2 hm hr (fun p hp => hmem p.2 (by simp only [LOp.operands]; exact mem_map.2 ⟨p, hp, rfl⟩)) w1 q1 w2.1 w2.2 hh
    ·exact w2.elim
   ·simp at e1
  ·simp at hlow
 | call c =>
  have hlow' := hlow
  simp only [hop, av_, cP_] at hlow
  split at hlow
  ·rename_i f hc
   split at hlow
   ·rename_i hf
    simp only [Option.some.injEq] at hlow; subst hlow
    exact tU_ hop hc hf hm hgl hr hmem hw hh
   ·split at hlow
    ·rename_i x y ha
     split at hlow
     ·rename_i hv
      simp only [Option.some.injEq] at hlow; subst hlow
      exact wm_ hop hc (bS_ ha) hv hm hr (hmem x (by simp [LOp.operands])) (hmem y (by simp [LOp.operands])) hw hh
     ·simp at hlow
    ·simp at hlow
  ·rename_i x _ hc
   simp only [Option.some.injEq] at hlow; subst hlow
   simp only [aZ_] at hw
   split at hw
   ·rename_i g first caps hg
    exact ra_ hop hc (hmem x (by simp [LOp.operands])) hg hw.1 hm hgl hr (fun y hy => hmem y (by simp only [LOp.operands]; exact mem_cons_of_mem _ hy)) hw.2 hh
   ·exact hw.elim
  ·rename_i hc
   split at hlow
   ·split at hlow
    ·simp only [Option.some.injEq] at hlow; subst hlow
     exact pureCase True hw
    ·simp only [Option.some.injEq] at hlow; subst hlow
     exact pureCase True hw
    ·simp at hlow
   ·simp at hlow
  ·rename_i hc
   split at hlow
   ·rename_i x y ty u ha ht
    split at hlow
    ·rename_i htu
     subst htu
     split at hlow
     ·rename_i e hu
      split at hlow
      ·rename_i i hi
       split at hlow
       ·rename_i z hz
        split at hlow
        ·rename_i hcond
         simp only [Option.some.injEq] at hlow; subst hlow
         simp only [aZ_] at hw
         split at hw
         ·rename_i l n es q1 q2
          split at hw
          ·rename_i r q3
           obtain ⟨w1, w2, w3, w4, w5, w6, w7⟩ := hw
           exact mb_ hop hc (bS_ ha) (bS_ ht) hu hi hz hcond.1 hcond.2 hm hr (hmem x (by simp [LOp.operands])) (hmem y (by simp [LOp.operands])) q1 q2 q3 w1 w2 w3 w4 w5 w6 w7 hh
          ·exact hw.elim
         ·rename_i l n lo m es q1 q2
          split at hw
          ·rename_i r q3
           split at hw
           ·obtain ⟨w0, w1, w2, w3, w3', w3'', w4, w5, w6, w7⟩ := hw
            subst w0
            exact k2_ hop hc (bS_ ha) (bS_ ht) hu hi hz hcond.1 hcond.2 hm hr (hmem x (by simp [LOp.operands])) (hmem y (by simp [LOp.operands])) q1 q2 q3 w1 w2 w3 w3' w3'' w4 w5 w6 w7 hh
           obtain ⟨w0, w1, w2, w3, w3', w4, w5, w6, w7⟩ := hw
           subst w0
           exact mq_ hop hc (bS_ ha) (bS_ ht) hu hi hz hcond.1 hcond.2 hm hr (hmem x (by simp [LOp.operands])) (hmem y (by simp [LOp.operands])) q1 q2 q3 w1 w2 w3 w3' w4 w5 w6 w7 hh
          ·exact hw.elim
         ·rename_i es q1 q2
          obtain ⟨w1, w2, w3, w4⟩ := hw
          exact mg_ hop hc (bS_ ha) (bS_ ht) hu hi hz hcond.1 hm hr (hmem x (by simp [LOp.operands])) (hmem y (by simp [LOp.operands])) q1 q2 w1 w2 w3 w4 hh
         ·exact hw.elim
        ·simp at hlow
       ·simp at hlow
      ·simp at hlow
     ·simp at hlow
    ·split at hlow
     ·rename_i e kn hu hn
      split at hlow
      ·rename_i i hi
       split at hlow
       ·rename_i z hz
        split at hlow
        ·rename_i hcond
         simp only [Option.some.injEq] at hlow; subst hlow
         simp only [aZ_] at hw
         split at hw
         ·rename_i l n lo m kq q q1 q2
          split at hw
          ·rename_i r q3
           obtain ⟨w0, w1, w2, w3, w4, w5, w6, w7, w8, w9⟩ := hw
           subst w0
           have hq : ((q.toNat : Nat) : Int) = q := Int.toNat_of_nonneg w5
           exact ko_ hop hc (bS_ ha) (bS_ ht) hu hn hi hz hcond.1 hcond.2 hm hr (hmem x (by simp [LOp.operands])) (hmem y (by simp [LOp.operands])) q1 (by rw [q2, hq]) q3 w1 w2 w3 w4 w6 w7 w8 w9 hh
          ·exact hw.elim
         ·exact hw.elim
        ·simp at hlow
       ·simp at hlow
      ·simp at hlow
     ·rename_i e hu hus
      split at hlow
      ·rename_i i hi
       split at hlow
       ·rename_i z hz
        split at hlow
        ·rename_i hcond
         simp only [Bool.and_eq_true, beq_iff_eq] at hcond
         simp only [Option.some.injEq] at hlow; subst hlow
         simp only [aZ_] at hw
         split at hw
         ·rename_i l n s q1 q2
          split at hw
          ·rename_i r q3
           obtain ⟨w1, w2, w3, w4, w5⟩ := hw
           exact oP_ hop hc (bS_ ha) (bS_ ht) hu hus hi hz hcond.1.1.2 hcond.1.2 hcond.2 hm hr (hmem x (by simp [LOp.operands])) (hmem y (by simp [LOp.operands])) q1 q2 q3 w1 w2 w3 w4 w5 hh
          ·exact hw.elim
         ·exact hw.elim
        ·simp at hlow
       ·simp at hlow
      ·simp at hlow
     ·simp at hlow
   ·simp at hlow
  ·rename_i hc
   split at hlow
   ·rename_i x ty ha ht
    split at hlow
    ·rename_i e hu
     split at hlow
     ·rename_i i hi
      split at hlow
      ·rename_i z hz
       split at hlow
       ·rename_i hcond
        obtain ⟨hc1, hc2, hc3⟩ := hcond
        simp only [Option.some.injEq] at hlow; subst hlow
        have hz1 : ∀ v ∈ z.cells.toList, v.oneCell' = true := by
         intro v hv
         rw [Array.all_eq_true'] at hc3
         exact hc3 v (by simpa using hv)
        have hxo := hr.eval (hmem x (by simp [LOp.operands]))
        simp only [aZ_] at hw
        split at hw
        ·rename_i l n q1
         rw [q1] at hxo
         simp only [Rep] at hxo
         obtain ⟨_, inf, p1, p2, p3⟩ := hxo
         split at hw
         ·rename_i r q3
          obtain ⟨w1, w2, w3, w4⟩ := hw
          obtain ⟨k1, k2, k3, k4⟩ := hm.rows l inf r p1 q3
          have hxv := p3 (by omega)
          refine nm_ (lo := 0) (hi := n) hop hc (cO_ ha) (cO_ ht) hu hi hz hc1 hz1 hm q3 p1 w1 w2 w3 (Nat.zero_le _) (Nat.le_refl _) ?_ ?_ hh
          ·cases hb : inf.blk with
           | none =>
            rw [hb] at k4
            have hn0 : n = 0 := by rw [← w1, k4.1]; rfl
            subst hn0
            rcases hxv with q | ⟨_, p, q⟩
            ·exact ⟨none, 0, by simpa [sliceAt, hb] using q, fun q => by omega⟩
            ·exact ⟨p, 0, by simpa using q, fun q => by omega⟩
           | some b =>
            simp only [sliceAt, hb, reduceCtorEq, false_and, or_false] at hxv
            exact ⟨some ⟨b, 0, none⟩, inf.cap, by rw [hxv, show inf.len = n by omega]; simp, fun _ => ⟨b, rfl, by simp⟩⟩
          ·have hD : r.es.drop n = [] := drop_eq_nil_of_le (by omega)
           simpa [hD] using w4
         ·exact hw.elim
        ·rename_i l n lo hi' q1
         rw [q1] at hxo
         simp only [Rep] at hxo
         obtain ⟨_, inf, p1, p2, p3⟩ := hxo
         split at hw
         ·rename_i r q3
          obtain ⟨w0, w0', w1, w2, w3, w4⟩ := hw
          obtain ⟨k1, k2, k3, k4⟩ := hm.rows l inf r p1 q3
          obtain ⟨g1, g2, hxv⟩ := p3 (by omega)
          refine nm_ (lo := lo) (hi := hi') hop hc (cO_ ha) (cO_ ht) hu hi hz hc1 hz1 hm q3 p1 w1 w2 w3 w0 w0' ?_ w4 hh
          rcases hxv with ⟨hb, p, q⟩ | ⟨b, off, hb, q, hoff⟩
          ·rw [hb] at k4
           have hn0 : n = 0 := by rw [← w1, k4.1]; rfl
           exact ⟨p, 0, by rw [q, show hi' - lo = 0 by omega], fun q => by omega⟩
          ·refine ⟨_, _, q, fun hlt => ⟨b, hb, ?_⟩⟩
           rw [hb] at k4
           obtain ⟨_, _, _, _, _, _, j5, _⟩ := k4.2.cells (.inr (by omega))
           rw [hoff (by omega)]
         ·exact hw.elim
        ·exact hw.elim
       ·simp at hlow
      ·simp at hlow
     ·simp at hlow
    ·simp at hlow
   ·simp at hlow
  ·rename_i hc
   split at hlow
   ·rename_i x ty ha ht
    split at hlow
    ·rename_i e hu
     simp only [Option.some.injEq] at hlow; subst hlow
     exact r9_ hop hc (cO_ ha) (cO_ ht) hu hm hr (hmem x (by simp [LOp.operands])) hw hh
    ·simp at hlow
   ·simp at hlow
  ·rename_i hc
   split at hlow
   ·rename_i x y ty u ha ht
    split at hlow
    ·rename_i htu
     subst htu
     split at hlow
     ·rename_i e hu
      split at hlow
      ·rename_i i hi
       simp only [Option.some.injEq] at hlow; subst hlow
       exact p1_ hop hc (bS_ ha) (bS_ ht) hu hi hm hr (hmem x (by simp [LOp.operands])) (hmem y (by simp [LOp.operands])) hw hh
      ·simp at hlow
     ·simp at hlow
    ·simp at hlow
   ·simp at hlow
  ·split at hlow
   ·simp only [Option.some.injEq] at hlow; subst hlow
    exact pureCase True hw
   ·simp at hlow
  ·split at hlow
   ·simp only [Option.some.injEq] at hlow; subst hlow
    exact pureCase True hw
   ·simp at hlow
  ·simp at hlow
 | makeMap ty rs =>
  cases rs with
  | some _ => simp [hop, av_] at hlow
  | none =>
   simp only [hop, av_] at hlow
   split at hlow
   ·split at hlow
    ·simp only [Option.some.injEq] at hlow; subst hlow
     exact rE_ hop hm hw hh
    ·simp at hlow
   ·simp at hlow
 | lookup ty x k q =>
  simp only [hop, av_] at hlow
  split at hlow
  ·split at hlow
   ·simp only [Option.bind_eq_some_iff] at hlow
    obtain ⟨i, _, z, _, e1⟩ := hlow
    split at e1
    ·simp only [Option.some.injEq] at e1; subst e1
     exact pureCase True hw
    ·simp at e1
   ·simp at hlow
  ·simp at hlow
 | mapUpdate ty m k v =>
  simp only [hop, av_] at hlow
  split at hlow
  ·rename_i kt et hu
   split at hlow
   ·rename_i hkt
    simp only [Option.some.injEq] at hlow; subst hlow
    simp only [aZ_] at hw
    split at hw
    ·rename_i l n u e1 e2 e3
     split at hw
     ·rename_i r e4
      split at hw
      ·rename_i ents hE
       exact p2_ hop hu hkt hm hr (hmem m (by simp [LOp.operands])) (hmem k (by simp [LOp.operands])) (hmem v (by simp [LOp.operands])) e1 e2 e3 e4 hE hw.2 hh
      ·exact hw.elim
     ·exact hw.elim
    ·exact hw.elim
   ·simp at hlow
  ·simp at hlow
 | binOp op ty x y ty' =>
  simp only [hop, av_] at hlow
  split at hlow
  ·rename_i neg hn
   simp only [Option.some.injEq] at hlow; subst hlow
   exact rL_ hop hn hm hr (hmem x (by simp [LOp.operands])) hw hh
  ·split at hlow
   ·simp only [Option.some.injEq] at hlow; subst hlow
    exact pureCase True hw
   split at hlow
   ·simp only [Option.some.injEq] at hlow; subst hlow
    exact pureCase True hw
   simp only [Option.some.injEq] at hlow; subst hlow
   exact pureCase True hw
 | makeFunc fn first caps =>
  cases fn with
  | func f =>
   simp only [hop, av_, Option.some.injEq] at hlow; subst hlow
   exact pureCase True hw
  | _ => simp [hop, av_] at hlow
 | convert s d x =>
  simp only [hop, av_] at hlow
  split at hlow
  ·simp only [Option.some.injEq] at hlow; subst hlow
   exact pureCase True hw
  ·split at hlow
   ·simp only [Option.some.injEq] at hlow; subst hlow
    exact pureCase True hw
   ·simp at hlow
  ·rename_i e h0 h1
   split at hlow
   ·rename_i he
    simp only [Option.some.injEq] at hlow; subst hlow
    simp only [aZ_] at hw
    split at hw
    ·rename_i st hst
     exact pL_ hop h0 h1 (lX_ he) hm hr (hmem x (by simp [LOp.operands])) hst hw hh
    ·exact hw.elim
   ·simp at hlow
  ·simp at hlow
 | slice ty x lo hi mx =>
  cases mx with
  | some mx =>
   cases lo with
   | some lo =>
    cases hi with
    | none => simp [hop, av_] at hlow
    | some hi =>
     simp only [hop, av_] at hlow
     split at hlow
     ·rename_i e hu
      simp only [Option.map_eq_some_iff] at hlow
      obtain ⟨j, hj, e⟩ := hlow; subst e
      exact p6_ hop hu hj hm hr (fun y hy => hmem y (by simpa [LOp.operands] using hy)) hw hh
     ·simp at hlow
   | none =>
    simp only [hop, av_] at hlow
    split at hlow
    ·rename_i e hu
     split at hlow
     ·rename_i hno
      simp only [Bool.and_eq_true] at hno
      simp only [Option.map_eq_some_iff] at hlow
      obtain ⟨j, hj, e⟩ := hlow; subst e
      have hxo := hr.eval (hmem x (by simp [LOp.operands]))
      simp only [aZ_] at hw
      split at hw
      ·rename_i q1
       rw [q1] at hxo
       simp only [Rep] at hxo
       rcases hxo with ⟨_, _, p, cp, q⟩ | ⟨b, off, cap, cc, q, _⟩
       ·exact gL_ hop hu hj hno.1 hno.2 hm q hw hh
       ·exact gL_ hop hu hj hno.1 hno.2 hm q hw hh
      ·rename_i q1
       rw [q1] at hxo
       simp only [Rep] at hxo
       obtain ⟨⟨p, m, cp, q⟩, _⟩ := hxo
       exact gL_ hop hu hj hno.1 hno.2 hm q hw hh
      ·rename_i q1
       rw [q1] at hxo
       simp only [Rep] at hxo
       obtain ⟨⟨p, m, cp, q⟩, _⟩ := hxo
       exact gL_ hop hu hj hno.1 hno.2 hm q hw hh
      ·rename_i q1
       rw [q1] at hxo
       simp only [Rep] at hxo
       exact gL_ hop hu hj hno.1 hno.2 hm hxo hw hh
      ·exact hw.elim
     ·simp at hlow
    ·simp at hlow
  | none =>
   simp only [hop, av_] at hlow
   split at hlow
   ·simp only [Option.some.injEq] at hlow; subst hlow
    exact pureCase True hw
   ·simp only [Option.map_eq_some_iff] at hlow
    obtain ⟨j, _, e⟩ := hlow; subst e
    exact pureCase True hw
   ·simp at hlow
 | build ty parts =>
  simp only [hop, av_] at hlow
  split at hlow
  ·split at hlow
   ·simp only [Option.bind_eq_some_iff, Option.map_eq_some_iff] at hlow
    obtain ⟨i, _, z, _, e⟩ := hlow; subst e
    exact pureCase True hw
   ·simp at hlow
  ·simp at hlow
 | _ =>
  cases lo <;> first
   | exact pureCase True hw
   | (exfalso; simp only [hop, av_] at hlow; first | (simp at hlow; done) | (split at hlow <;> first | (simp at hlow; done) | (split at hlow <;> first | (simp at hlow; done) | (simp [Option.bind_eq_some_iff] at hlow; done))))
theorem mK_ {lo : LOp} (hlow : av_ P o.op = some lo) (hok : ge_ N lo = true) (hm : ae_ S h w) (hgl : cY_ P S) (hr : Rel S N t a) (hw : aZ_ P t h K lo.asImm) (hh : bM_ S w a o K next) : o.wp P a w next Q := by
 have hmem := e6_ hok
 cases hop : o.op with
 | buildSlice ty len parts =>
  simp only [hop, av_] at hlow
  split at hlow
  ·rename_i e hu
   simp only [Option.bind_eq_some_iff] at hlow
   obtain ⟨i, hi, z, hz, e1⟩ := hlow
   split at e1
   ·rename_i hcond
    simp only [Option.some.injEq] at e1; subst e1
    simp only [LOp.asImm, aZ_] at hw
    obtain ⟨w1, w2⟩ := hw
    split at w2
    ·rename_i es q1
     exact oa_ hop hu hi hz hcond.1 hcond.2.1 hcond.2.2 hm hr (fun p hp => hmem p.2 (by simp only [LOp.operands]; exact mem_map.2 ⟨p, hp, rfl⟩)) w1 q1 w2.1 w2.2.1 w2.2.2 hh
    ·exact w2.elim
   ·simp at e1
  ·simp at hlow
 | _ =>
  cases lo with
  | buildSlice E sz z len ps =>
   exfalso
   simp only [hop, av_, cP_] at hlow
   first | (simp at hlow; done) | ((repeat' split at hlow) <;> first | (simp at hlow; done) | (simp [Option.bind_eq_some_iff, Option.map_eq_some_iff] at hlow; done) | contradiction | (simp_all; done))
  | _ => exact h4_ hlow hok hm hgl hr hw hh
end
inductive LC where
 | skip
 | ops (l : List LI)
 | dops (l : List LI)
 | gops (pre : List LI) (chain : List (LI × List LI))
 | seq (a b : LC)
 | cond (c : Operand) (a b : LC)
 | block (id : Nat) (b : LC)
 | loop (b : LC)
 | exit (id : Nat)
 | ret
 | ghost (b : LC)
def LC.k (c : Nat) (a b : LC) : LC := .cond (.tmp c) a b
def LC.o (l : List LI) : LC := .ops l
def LC.q : List LC → LC
  | [] => .skip
  | [a] => a
  | a :: b :: l => .seq a (LC.q (b :: l))
theorem LC.q1 (a : LC) : LC.q [a] = a := rfl
theorem LC.q2 (a b : LC) (l : List LC) : LC.q (a :: b :: l) = .seq a (LC.q (b :: l)) := rfl
inductive LE where
 | normal
 | exit (id : Nat)
 | ret
def sz_ (N : Nat) : Option Nat → Bool
 | some d => decide (d < N)
 | none => true
def bP_ (P : Program) (N : Nat) (ops : Array Oper) (o : Oper) : Option LI :=
 (av_ P o.op).bind fun lo =>
  if ge_ N lo && sz_ N o.dst then
   match o.guard with
   | none => some ⟨o.dst, none, lo⟩
   | some (j, want) =>
    match (ops[j]?).bind (·.dst) with
    | some d => if d < N then some ⟨o.dst, some (d, want), lo⟩ else none
    | none => none
  else none
def LI.asImm (x : LI) : LI := { x with op := x.op.asImm }
def LI.reads (i : LI) : List Nat :=
 (i.op.operands.filterMap fun | .tmp k => some k | _ => none) ++ (match i.guard with | some (d, _) => [d] | none => [])
def LOp.quiet : LOp → Bool
 | .clip0 _ _ _ | .clear _ _ _ _ | .mkMap | .mapUpd _ _ _ | .isNil _ _ | .slice3 _ _ _ _ | .capSl _ | .copySl _ _ _ | .ovl _ _ | .appendZ _ _ _ _ _ _ | .appendS _ _ _ => false
 | .alloc _ _ | .box _ _ | .store _ _ _ | .mkSlice _ _ _ _ _ _ | .buildSlice _ _ _ _ _ | .append _ _ _ _ _ => false
 | _ => true
def bN_ (ops : Array Oper) (i k : Nat) : Bool :=
 match ops[i]? with
 | some o => o.after.any fun e => Region.binds .any e && e.on == k
 | none => false
def h6_ (ops : Array Oper) (i k : Nat) (x y : LI) : Bool :=
 match y.dst with
 | some d => if x.reads.contains d then (if k < i then bN_ ops i k else bN_ ops k i) else true
 | none => false
def hD_ (ops : Array Oper) (l : List LI) : Bool :=
 l.length == ops.size &&
 (l.zipIdx.all fun (x, i) =>
   x.op.quiet &&
   (match x.dst with | some d => !x.reads.contains d | none => false) &&
   (match ops[i]? with | some o => o.after.all fun e => !Region.binds .any e || decide (e.on < i) | none => false) &&
   (l.zipIdx.all fun (y, k) => k == i || (h6_ ops i k x y && !(x.dst == y.dst))))
def LOp.calm : LOp → Bool
 | .alloc _ _ | .box _ _ | .store _ _ _ | .mkSlice _ _ _ _ _ _ | .buildSlice _ _ _ _ _ | .buildImm _ _ _ _ _ | .append _ _ _ _ _ => false
 | .isNil _ _ | .slice3 _ _ _ _ | .capSl _ | .copySl _ _ _ | .ovl _ _ | .appendZ _ _ _ _ _ _ | .appendS _ _ _ => false
 | .toBytes _ _ | .clip0 _ _ _ | .clear _ _ _ _ | .mkMap | .mapUpd _ _ _ | .call _ _ | .callv _ _ => false
 | _ => true
def LI.none : LI := ⟨Option.none, Option.none, .mov (.tmp 0)⟩
def gat (l : List LI) (k : Nat) : LI := l.getD k LI.none
def ew_ (ops : Array Oper) : Nat → Nat → Nat → Bool
 | 0, _, _ => false
 | f + 1, i, k => bN_ ops i k || (List.range i).any fun m => bN_ ops i m && ew_ ops f m k
def bG_ (ops : Array Oper) (l : List LI) (i : Nat) : Bool :=
 !(gat l i).op.calm || (List.range i).any fun k => !(gat l k).op.calm && ew_ ops l.length i k
def my_ (ops : Array Oper) (l : List LI) : List Nat := (List.range l.length).filter fun i => !bG_ ops l i
def chB (ops : Array Oper) (l : List LI) : List Nat := (List.range l.length).filter fun i => bG_ ops l i
def qq_ (l : List LI) (i : Nat) : Bool :=
 match (gat l i).op, (gat l i).dst with
 | .buildSlice _ _ _ 0 [], some _ => true
 | _, _ => false
def xX_ (ops : Array Oper) (l : List LI) (f : Nat) : Nat := ((List.range l.length).filter fun i => bN_ ops i f).headD l.length
def chC (ops : Array Oper) (l : List LI) : List Nat := (List.range (l.length + 1)).flatMap fun i => ((chB ops l).filter fun f => qq_ l f && xX_ ops l f == i) ++ (chB ops l).filter fun c => c == i && !qq_ l c
def kw_ : List Nat → Bool
 | [] => true
 | a :: l => !l.contains a && kw_ l
def pn_ (R : Nat → Nat → Bool) : List Nat → Bool
 | [] => true
 | a :: l => l.all (R a) && pn_ R l
def jX_ (a b : List Nat) : Bool := kw_ a && a.all (fun x => b.contains x) && b.all (fun x => a.contains x)
def chI (ops : Array Oper) (l : List LI) : List Nat := if jX_ (chC ops l) (chB ops l) then chC ops l else chB ops l
def c8_ (l : List LI) (i : Nat) : Bool :=
 match (gat l i).op, (gat l i).dst with
 | .alloc _ _, some _ => true
 | .buildSlice _ _ _ 0 [], some _ => true
 | _, _ => false
def LOp.slot : LOp → Bool
 | .mov _ | .pick _ _ _ | .extract _ _ | .bin _ _ _ _ | .un _ _ | .lenStr _ | .indexStr _ _ | .field _ _ _ | .mkFunc _ _ _ | .convInt _ _ | .sliceStr _ _ _ | .build _ _ _ => true
 | _ => false
def eV_ (ops : Array Oper) (l : List LI) (c : Nat) : Bool :=
 (gat l c).op.slot && (match (gat l c).dst with
  | some d => (List.range l.length).all fun i => !(gat l i).reads.contains d || (decide (c < i) && bG_ ops l i)
  | none => false)
def hS_ (ops : Array Oper) (l : List LI) : Bool :=
 l.length == ops.size &&
 ((List.range l.length).all fun i =>
   (gat l i).guard.isNone &&
   (match ops[i]? with | some o => o.after.all fun e => !Region.binds .any e || decide (e.on < i) | none => false) &&
   (bG_ ops l i || (gat l i).dst.isSome) &&
   ((List.range l.length).all fun k => match (gat l k).dst with
     | some d => (k == i || !((gat l i).dst == some d)) && (!(gat l i).reads.contains d || (decide (k < i) && bN_ ops i k) || (decide (i < k) && bG_ ops l k && bN_ ops k i))
     | none => true)) &&
 pn_ (fun c' c => (ew_ ops l.length c c' || c8_ l c || eV_ ops l c') && !bN_ ops c' c) (chI ops l)
def kS_ (ops : Array Oper) (l : List LI) (c : Nat) : List Nat := (my_ ops l).filter fun p => !ew_ ops l.length c p
def na_ (ops : Array Oper) (l : List LI) : List LI := (my_ ops l).map (gat l)
def iX_ (ops : Array Oper) (l : List LI) : List (LI × List LI) := (chI ops l).map fun c => (gat l c, (kS_ ops l c).map (gat l))
def aV_ (P : Program) (N : Nat) (pf : Bool) : Code → Option LC
 | .skip => some .skip
 | .region _ ops draw =>
  match ops.toList.mapM (bP_ P N ops) with
  | some l => if draw then (if pf && hS_ ops l then some (.gops (na_ ops l) (iX_ ops l)) else if hD_ ops (l.map LI.asImm) then some (.dops (l.map LI.asImm)) else if hS_ ops l then some (.gops (na_ ops l) (iX_ ops l)) else none) else some (.ops l)
  | none => none
 | .seq a b =>
  match aV_ P N pf a, aV_ P N pf b with
  | some x, some y => some (.seq x y)
  | _, _ => none
 | .cond c a b =>
  match aV_ P N pf a, aV_ P N pf b with
  | some x, some y => if aj_ N c then some (.cond c x y) else none
  | _, _ => none
 | .block id b => (aV_ P N pf b).map (.block id)
 | .loop b => (aV_ P N pf b).map .loop
 | .exit id => some (.exit id)
 | .ret => some .ret
 | _ => none
def LC.erase : LC → LC
 | .seq a b => .seq a.erase b.erase
 | .cond c a b => .cond c a.erase b.erase
 | .block id b => .block id b.erase
 | .loop b => .loop b.erase
 | .ghost b => b.erase
 | c => c
def km_ (N : Nat) (t : Nat → AV) (h : List Row) (t' : Nat → AV) (h' : List Row) : Prop :=
 ∀ (S : Sit) (w : World) (a : Act), ae_ S h w → Rel S N t a → ∃ S', a8_ S w S' w ∧ ae_ S' h' w ∧ Rel S' N t' a
def b1_ (t : Nat → AV) (g : Option (Nat × Bool)) : Option Bool :=
 match g with
 | none => some true
 | some (d, want) =>
  match t d with
  | .val (.bool b) => some (b == want)
  | .val (.tuple _) => some false
  | _ => none
def fp_ (P : Program) : List LI → (Nat → AV) → List Row → ((Nat → AV) → List Row → Prop) → Prop
 | [], t, h, K => K t h
 | i :: rest, t, h, K =>
  match b1_ t i.guard with
  | some true => aZ_ P t h (fun v h' => fp_ P rest (put t i.dst v) h' K) i.op
  | some false => fp_ P rest (put t i.dst (.val Go.undef)) h K
  | none => False
def aa_ (P : Program) (f : FuncId) (args : List AV) (h : List Row) (r : AV) : Prop := ∀ K : AV → List Row → Prop, K r h → callSem P f args h K
def qWp (P : Program) (t : Nat → AV) (h : List Row) (K : AV → Prop) : LOp → Prop
 | .call f args => ∃ r, aa_ P f (args.map (ak_ t)) h r ∧ K r
 | .callv f args =>
  match ak_ t f with
  | .fn g first caps => cc_ P g = true ∧ ∃ r, aa_ P g (first ++ args.map (ak_ t) ++ caps) h r ∧ K r
  | _ => False
 | .toBytes _ x =>
  match ak_ t x with
  | .val (.string s) => K (.list 0 1 (aA_ s.data.toList))
  | _ => False
 | .buildImm _ sz _ len parts =>
  parts.map (·.1) = List.range len ∧
   match ch_ t parts with
   | some es => (∀ e ∈ es, e.length = sz) ∧ (∀ e ∈ es, e.all AV.flat = true) ∧ K (.list 0 sz es)
   | none => False
 | op =>
  match ai_ t h op with
  | some v => K v
  | none => False
def gV_ (P : Program) (h : List Row) : List LI → (Nat → AV) → ((Nat → AV) → Prop) → Prop
 | [], t, K => K t
 | i :: rest, t, K =>
  match b1_ t i.guard with
  | some true => qWp P t h (fun v => gV_ P h rest (put t i.dst v) K) i.op
  | some false => gV_ P h rest (put t i.dst (.val Go.undef)) K
  | none => False
def holds (T : Nat → AV) (h : List Row) : List LI → Prop
 | [] => True
 | i :: r => (match i.dst with | some d => ai_ T h i.op = some (T d) | Option.none => False) ∧ holds T h r
def gd_ (h : List Row) : List LI → (Nat → AV) → ((Nat → AV) → Prop) → Prop
 | [], t, K => K t
 | i :: r, t, K => match ai_ t h i.op with | some v => gd_ h r (put t i.dst v) K | Option.none => False
def f7_ (P : Program) : List (LI × List LI) → (Nat → AV) → List Row → ((Nat → AV) → List Row → Prop) → Prop
 | [], T, h, K => K T h
 | (c, loose) :: r, T, h, K => aZ_ P T h (fun v h' => holds (put T c.dst v) h' loose ∧ f7_ P r (put T c.dst v) h' K) c.op
def gWp (P : Program) (pre : List LI) (chain : List (LI × List LI)) (t : Nat → AV) (h : List Row) (K : (Nat → AV) → List Row → Prop) : Prop :=
 gd_ h pre t fun T => holds T h pre ∧ f7_ P chain T h K
def awp (P : Program) (N : Nat) : LC → (LE → (Nat → AV) → List Row → Prop) → (Nat → AV) → List Row → Prop
 | .skip, Q, t, h => Q .normal t h
 | .ops l, Q, t, h => fp_ P l t h (Q .normal)
 | .dops l, Q, t, h => gV_ P h l t (fun t' => Q .normal t' h)
 | .gops pre chain, Q, t, h => gWp P pre chain t h (Q .normal)
 | .seq a b, Q, t, h => awp P N a (fun e t h => match e with | .normal => awp P N b Q t h | e => Q e t h) t h
 | .cond c a b, Q, t, h =>
  match ak_ t c with
  | .val (.bool q) => (q = true → awp P N a Q t h) ∧ (q = false → awp P N b Q t h)
  | _ => False
 | .block id b, Q, t, h => awp P N b (fun e t h => match e with | .exit k => if k = id then Q .normal t h else Q (.exit k) t h | e => Q e t h) t h
 | .loop b, Q, t, h => ∃ (I : Nat → (Nat → AV) → List Row → Prop) (n : Nat), I n t h ∧ ∀ n t h, I n t h → awp P N b (fun e t' h' => match e with | .normal => ∃ m, m < n ∧ I m t' h' | e => Q e t' h') t h
 | .exit id, Q, t, h => Q (.exit id) t h
 | .ret, Q, t, h => Q .ret t h
 | .ghost b, Q, t, h => ∃ t' h', km_ N t h t' h' ∧ awp P N b Q t' h'
theorem d4_ {t t' : Nat → AV} {h : List Row} (op : LOp) (e : ∀ x ∈ op.operands, ak_ t x = ak_ t' x) : ai_ t h op = ai_ t' h op := by
 have bo : ∀ (x : Option Operand) (d : Nat), (∀ y ∈ x, ak_ t y = ak_ t' y) → bI_ t x d = bI_ t' x d := by
  intro x d hx
  cases x with
  | none => rfl
  | some y => simp only [bI_, hx y rfl]
 cases op with
 | mov x => simp only [ai_, e x (by simp [LOp.operands])]
 | pick c a b => simp only [ai_, e c (by simp [LOp.operands]), e a (by simp [LOp.operands]), e b (by simp [LOp.operands])]
 | load n x => simp only [ai_, e x (by simp [LOp.operands])]
 | fieldAddr n x => simp only [ai_, e x (by simp [LOp.operands])]
 | field n m x => simp only [ai_, e x (by simp [LOp.operands])]
 | indexAddr n x i => simp only [ai_, e x (by simp [LOp.operands]), e i (by simp [LOp.operands])]
 | indexStr x i => simp only [ai_, e x (by simp [LOp.operands]), e i (by simp [LOp.operands])]
 | bin o q x y => simp only [ai_, e x (by simp [LOp.operands]), e y (by simp [LOp.operands])]
 | un o x => simp only [ai_, e x (by simp [LOp.operands])]
 | eqSt k l x y => simp only [ai_, e x (by simp [LOp.operands]), e y (by simp [LOp.operands])]
 | mm k x y => simp only [ai_, e x (by simp [LOp.operands]), e y (by simp [LOp.operands])]
 | lenStr x => simp only [ai_, e x (by simp [LOp.operands])]
 | lenSl x => simp only [ai_, e x (by simp [LOp.operands])]
 | extract x i => simp only [ai_, e x (by simp [LOp.operands])]
 | nilCheck x => simp only [ai_, e x (by simp [LOp.operands])]
 | convInt k x => simp only [ai_, e x (by simp [LOp.operands])]
 | isNilP k x => simp only [ai_, e x (by simp [LOp.operands])]
 | toStr x => simp only [ai_, e x (by simp [LOp.operands])]
 | lookup z q m k => simp only [ai_, e m (by simp [LOp.operands]), e k (by simp [LOp.operands])]
 | mkFunc f a b =>
  simp only [ai_]
  rw [map_congr_left (fun x hx => e x (by simp [LOp.operands, hx])), map_congr_left (l := b) (fun x hx => e x (by simp [LOp.operands, hx]))]
 | sliceStr x lo hi =>
  simp only [ai_, e x (by simp [LOp.operands]), bo lo 0 (fun y hy => e y (by simp at hy; simp [LOp.operands, hy])), fun d => bo hi d (fun y hy => e y (by simp at hy; simp [LOp.operands, hy]))]
 | sliceSl n x lo hi =>
  simp only [ai_, e x (by simp [LOp.operands]), bo lo 0 (fun y hy => e y (by simp at hy; simp [LOp.operands, hy])), fun d => bo hi d (fun y hy => e y (by simp at hy; simp [LOp.operands, hy]))]
 | build z pl parts =>
  simp only [ai_, fE_]
  rw [map_congr_left (l := parts) (fun p hp => by rw [e p.2 (by simp only [LOp.operands]; exact mem_map.2 ⟨p, hp, rfl⟩)])]
 | _ => rfl
theorem nL_ {t t' : Nat → AV} {x : Operand} (e : ∀ k, x = .tmp k → t k = t' k) : ak_ t x = ak_ t' x := by
 cases x with
 | tmp k => exact e k rfl
 | _ => rfl
theorem qa_ {P : Program} {t t' : Nat → AV} {h : List Row} {K : AV → Prop} (op : LOp) (e : ∀ x ∈ op.operands, ak_ t x = ak_ t' x) (q : qWp P t h K op) : qWp P t' h K op := by
 cases op with
 | call f args =>
  simp only [qWp] at q ⊢
  rw [← map_congr_left (l := args) (fun x hx => e x (by simpa [LOp.operands] using hx))]; exact q
 | callv f args =>
  simp only [qWp] at q ⊢
  rw [← e f (by simp [LOp.operands]), ← map_congr_left (l := args) (fun x hx => e x (by simp [LOp.operands, hx]))]; exact q
 | toBytes E x =>
  simp only [qWp] at q ⊢
  rw [← e x (by simp [LOp.operands])]; exact q
 | buildImm E sz z len parts =>
  simp only [qWp] at q ⊢
  have : ch_ t' parts = ch_ t parts := by
   unfold ch_
   have h0 : ∀ p ∈ parts, ak_ t p.2 = ak_ t' p.2 := fun p hp => e p.2 (by simp only [LOp.operands]; exact mem_map.2 ⟨p, hp, rfl⟩)
   clear q e
   induction parts with
   | nil => rfl
   | cons p ps ih => rw [mapM_cons, mapM_cons, h0 p (by simp), ih (fun p hp => h0 p (by simp [hp]))]
  rw [this]; exact q
 | _ =>
  simp only [qWp] at q ⊢
  rw [← d4_ _ e]; exact q
theorem dC_ {i : LI} {t t' : Nat → AV} (e : ∀ s ∈ i.reads, t s = t' s) : ∀ x ∈ i.op.operands, ak_ t x = ak_ t' x := by
 intro x hx
 refine nL_ fun k hk => e k ?_
 subst hk
 simp only [LI.reads, mem_append, mem_filterMap]
 exact .inl ⟨_, hx, rfl⟩
theorem jy_ {i : LI} {t t' : Nat → AV} (e : ∀ s ∈ i.reads, t s = t' s) : b1_ t i.guard = b1_ t' i.guard := by
 cases hg : i.guard with
 | none => rfl
 | some g =>
  obtain ⟨d, want⟩ := g
  simp only [b1_]
  rw [e d (by simp [LI.reads, hg])]
theorem pX_ {P : Program} {t : Nat → AV} {h : List Row} {K : AV → Prop} {op : LOp} (q : qWp P t h K op) : ∃ v, qWp P t h (fun u => u = v) op ∧ K v := by
 cases op with
 | call f args =>
  simp only [qWp] at q ⊢
  obtain ⟨r, h1, h2⟩ := q
  exact ⟨r, ⟨r, h1, rfl⟩, h2⟩
 | callv f args =>
  simp only [qWp] at q ⊢
  split at q
  ·rename_i g first caps e
   obtain ⟨h0, r, h1, h2⟩ := q
   exact ⟨r, ⟨h0, r, h1, rfl⟩, h2⟩
  ·exact q.elim
 | toBytes E x =>
  simp only [qWp] at q ⊢
  split at q
  ·exact ⟨_, rfl, q⟩
  ·exact q.elim
 | buildImm E sz z len parts =>
  simp only [qWp] at q ⊢
  obtain ⟨h0, q⟩ := q
  split at q
  ·exact ⟨_, ⟨h0, q.1, q.2.1, rfl⟩, q.2.2⟩
  ·exact q.elim
 | _ =>
  simp only [qWp] at q ⊢
  split at q
  ·rename_i v _
   exact ⟨v, rfl, q⟩
  ·exact q.elim
def tAt (l : List LI) (t : Nat → AV) (vs : Nat → AV) : Nat → (Nat → AV)
 | 0 => t
 | i + 1 => match l[i]? with
  | some x => put (tAt l t vs i) x.dst (vs i)
  | none => tAt l t vs i
theorem nj_ {P : Program} {h : List Row} {K : (Nat → AV) → Prop} : ∀ (n : Nat) (l : List LI) (i : Nat) (t0 : Nat → AV) (vs0 : Nat → AV), n + i = l.length → gV_ P h (l.drop i) (tAt l t0 vs0 i) K →
 ∃ vs : Nat → AV, (∀ k, k < i → vs k = vs0 k) ∧ K (tAt l t0 vs l.length) ∧ ∀ k x, i ≤ k → l[k]? = some x →
  match b1_ (tAt l t0 vs k) x.guard with
  | some true => qWp P (tAt l t0 vs k) h (fun v => v = vs k) x.op
  | some false => vs k = .val Go.undef
  | none => False
 | 0, l, i, t0, vs0, hn, ha => by
  have : l.drop i = [] := drop_eq_nil_of_le (by omega)
  rw [this] at ha
  refine ⟨vs0, fun _ _ => rfl, ?_, fun k x hk hx => ?_⟩
  ·have : i = l.length := by omega
   subst this; exact ha
  ·have : k < l.length := by rcases List.getElem?_eq_some_iff.1 hx with ⟨q, _⟩; exact q
   omega
 | n + 1, l, i, t0, vs0, hn, ha => by
  have hi : i < l.length := by omega
  have hd : l.drop i = l[i] :: l.drop (i + 1) := drop_eq_getElem_cons hi
  rw [hd] at ha
  have tcongr : ∀ (vs vs' : Nat → AV) (j : Nat), (∀ k, k < j → vs k = vs' k) → tAt l t0 vs j = tAt l t0 vs' j := by
   intro vs vs' j
   induction j with
   | zero => intro _; rfl
   | succ j ih =>
    intro hk
    simp only [tAt]
    rw [ih (fun k hk' => hk k (by omega)), hk j (by omega)]
  have key : ∀ v, gV_ P h (l.drop (i + 1)) (put (tAt l t0 vs0 i) l[i].dst v) K → (match b1_ (tAt l t0 vs0 i) l[i].guard with
   | some true => qWp P (tAt l t0 vs0 i) h (fun u => u = v) l[i].op
   | some false => v = .val Go.undef
   | none => False) → ∃ vs : Nat → AV, (∀ k, k < i → vs k = vs0 k) ∧ K (tAt l t0 vs l.length) ∧ ∀ k x, i ≤ k → l[k]? = some x →
   match b1_ (tAt l t0 vs k) x.guard with
   | some true => qWp P (tAt l t0 vs k) h (fun v => v = vs k) x.op
   | some false => vs k = .val Go.undef
   | none => False := by
   intro v hv hm
   have e1 : tAt l t0 (fun k => if k = i then v else vs0 k) i = tAt l t0 vs0 i := tcongr _ _ i (fun k hk => by simp [Nat.ne_of_lt hk])
   have hstep : tAt l t0 (fun k => if k = i then v else vs0 k) (i + 1) = put (tAt l t0 vs0 i) l[i].dst v := by
    simp only [tAt, getElem?_eq_getElem hi, e1]
    simp
   obtain ⟨vs, h1, h2, h3⟩ := nj_ n l (i + 1) t0 (fun k => if k = i then v else vs0 k) (by omega) (by rw [hstep]; exact hv)
   refine ⟨vs, fun k hk => by rw [h1 k (by omega)]; simp [Nat.ne_of_lt hk], h2, fun k x hk hx => ?_⟩
   by_cases hki : k = i
   ·subst hki
    rw [getElem?_eq_getElem hi] at hx
    simp at hx; subst hx
    have e2 : tAt l t0 vs k = tAt l t0 vs0 k := tcongr _ _ k (fun j hj => by rw [h1 j (by omega)]; simp [Nat.ne_of_lt hj])
    have e3 : vs k = v := by rw [h1 k (by omega)]; simp
    rw [e2, e3]; exact hm
   ·exact h3 k x (by omega) hx
  simp only [gV_] at ha
  split at ha
  ·rename_i hw
   obtain ⟨v, hv1, hv2⟩ := pX_ ha
   exact key v hv2 (by rw [hw]; exact hv1)
  ·rename_i hw
   exact key _ ha (by rw [hw])
  ·exact ha.elim
theorem wh_ {P : Program} {t : Nat → AV} {h : List Row} {u : AV} {op : LOp} (hq : op.quiet = true) (q : qWp P t h (fun v => v = u) op) : aZ_ P t h (fun v h' => v = u ∧ h' = h) op := by
 cases op with
 | call f args =>
  simp only [qWp, aZ_] at q ⊢
  obtain ⟨r, h1, h2⟩ := q
  exact h1 _ ⟨h2, rfl⟩
 | callv f args =>
  simp only [qWp, aZ_] at q ⊢
  split at q
  ·rename_i g first caps e
   rw [e]
   obtain ⟨h0, r, h1, h2⟩ := q
   exact ⟨h0, h1 _ ⟨h2, rfl⟩⟩
  ·exact q.elim
 | alloc _ _ => simp [LOp.quiet] at hq
 | box _ _ => simp [LOp.quiet] at hq
 | store _ _ _ => simp [LOp.quiet] at hq
 | mkSlice _ _ _ _ _ _ => simp [LOp.quiet] at hq
 | buildSlice _ _ _ _ _ => simp [LOp.quiet] at hq
 | append _ _ _ _ _ => simp [LOp.quiet] at hq
 | clip0 _ _ _ => simp [LOp.quiet] at hq
 | clear _ _ _ _ => simp [LOp.quiet] at hq
 | mkMap => simp [LOp.quiet] at hq
 | mapUpd _ _ _ => simp [LOp.quiet] at hq
 | toBytes E x =>
  simp only [qWp, aZ_] at q ⊢
  split at q
  ·rename_i s e
   rw [e]; first | exact ⟨.inl ⟨q, rfl⟩⟩ | exact ⟨.inl ⟨q, trivial⟩⟩
  ·exact q.elim
 | buildImm E sz z len parts =>
  simp only [qWp, aZ_] at q ⊢
  refine ⟨q.1, ?_⟩
  have q2 := q.2
  split at q2
  ·rename_i es e
   rw [e]; first | exact ⟨q2.1, q2.2.1, q2.2.2, rfl⟩ | exact ⟨q2.1, q2.2.1, q2.2.2, trivial⟩
  ·exact q2.elim
 | isNil neg x => simp [qWp, ai_] at q
 | slice3 x lo hi mx => simp [qWp, ai_] at q
 | capSl x => simp [qWp, ai_] at q
 | copySl sz x y => simp [qWp, ai_] at q
 | ovl x y => simp [qWp, ai_] at q
 | appendZ E sz b z x k => simp [qWp, ai_] at q
 | appendS E x y => simp [qWp, ai_] at q
 | _ =>
  simp only [qWp] at q
  unfold aZ_
  split at q
  ·rename_i v e
   simp only [e]
   first | exact ⟨q, rfl⟩ | exact ⟨q, trivial⟩
  ·exact q.elim
theorem dT_ {P : Program} {N : Nat} {ops : Array Oper} {o : Oper} {x : LI} (h : bP_ P N ops o = some x) : av_ P o.op = some x.op ∧ ge_ N x.op = true ∧ o.dst = x.dst ∧ (∀ d, x.dst = some d → d < N) ∧
 ((o.guard = none ∧ x.guard = none) ∨ ∃ j want d, o.guard = some (j, want) ∧ (ops[j]?).bind (·.dst) = some d ∧ d < N ∧ x.guard = some (d, want)) := by
 simp only [bP_, Option.bind_eq_some_iff] at h
 obtain ⟨lo, h1, h2⟩ := h
 split at h2
 ·rename_i hc
  simp only [Bool.and_eq_true] at hc
  have hd : ∀ d, o.dst = some d → d < N := by
   intro d hd
   have := hc.2
   rw [hd] at this
   simpa [sz_] using this
  split at h2
  ·rename_i hg
   simp only [Option.some.injEq] at h2; subst h2
   exact ⟨h1, hc.1, rfl, hd, .inl ⟨hg, rfl⟩⟩
  ·rename_i j want hg
   split at h2
   ·rename_i d hj
    split at h2
    ·rename_i hdN
     simp only [Option.some.injEq] at h2; subst h2
     exact ⟨h1, hc.1, rfl, hd, .inr ⟨j, want, d, hg, hj, hdN, rfl⟩⟩
    ·simp at h2
   ·simp at h2
 ·simp at h2
theorem ei_ {P : Program} {S : Sit} {N : Nat} {t : Nat → AV} {a : Act} {ops : Array Oper} {o : Oper} {x : LI} (hl : bP_ P N ops o = some x) (hr : Rel S N t a) {q : Bool} (hw : b1_ t x.guard = some q) :
 Region.wanted o (yielded ops a.tmps) = q := by
 obtain ⟨_, _, _, _, hg⟩ := dT_ hl
 rcases hg with ⟨g1, g2⟩ | ⟨j, want, d, g1, g2, g3, g4⟩
 ·rw [g2] at hw
  simp [b1_] at hw; subst hw
  simp [Region.wanted, g1]
 ·rw [g4] at hw
  have rd := hr.2.2 d g3
  have hdlt : d < a.tmps.size := by rw [hr.1]; exact g3
  simp only [b1_] at hw
  split at hw
  ·rename_i b e
   simp only [Option.some.injEq] at hw; subst hw
   rw [e] at rd
   simp only [Rep] at rd
   have : a.tmps[d]? = some (.bool b) := by
    rw [Array.getD_eq_getD_getElem?, Array.getElem?_eq_getElem hdlt] at rd
    rw [Array.getElem?_eq_getElem hdlt]
    simpa using rd
   simp [Region.wanted, g1, yielded, g2, this]
  ·rename_i vs e
   simp only [Option.some.injEq] at hw; subst hw
   rw [e] at rd
   simp only [Rep] at rd
   have : a.tmps[d]? = some (.tuple vs) := by
    rw [Array.getD_eq_getD_getElem?, Array.getElem?_eq_getElem hdlt] at rd
    rw [Array.getElem?_eq_getElem hdlt]
    simpa using rd
   simp [Region.wanted, g1, yielded, g2, this]
  ·simp at hw
section
variable {l : List LI} {t : Nat → AV} {vs : Nat → AV}
def dF_ (l : List LI) (t : Nat → AV) (vs : Nat → AV) (listed : Array Bool) (s : Nat) : AV :=
 match (List.range l.length).find? (fun k => listed.getD k false && ((l[k]?).bind (·.dst)) == some s) with
 | some k => vs k
 | none => t s
theorem cN_ (hd : ∀ (i k : Nat) (d : Nat), (l[i]?).bind (·.dst) = some d → (l[k]?).bind (·.dst) = some d → i = k) {listed : Array Bool} {k s : Nat} (hk : k < l.length) (h1 : listed.getD k false = true) (h2 : (l[k]?).bind (·.dst) = some s) : dF_ l t vs listed s = vs k := by
 unfold dF_
 cases hf : (List.range l.length).find? (fun k => listed.getD k false && ((l[k]?).bind (·.dst)) == some s) with
 | none =>
  have := find?_eq_none.1 hf k (mem_range.2 hk)
  simp only [h1, h2] at this
  simp at this
 | some j =>
  have hj := find?_some hf
  simp only [Bool.and_eq_true, beq_iff_eq] at hj
  rw [hd j k s hj.2 h2]
theorem co_ {listed : Array Bool} {s : Nat} (h : ∀ k, listed.getD k false = true → (l[k]?).bind (·.dst) ≠ some s) : dF_ l t vs listed s = t s := by
 unfold dF_
 cases hf : (List.range l.length).find? (fun k => listed.getD k false && ((l[k]?).bind (·.dst)) == some s) with
 | none => rfl
 | some j =>
  have hj := find?_some hf
  simp only [Bool.and_eq_true, beq_iff_eq] at hj
  exact absurd hj.2 (h j hj.1)
theorem gN_ (hd : ∀ (i k : Nat) (d : Nat), (l[i]?).bind (·.dst) = some d → (l[k]?).bind (·.dst) = some d → i = k) {k s : Nat} (h2 : (l[k]?).bind (·.dst) = some s) : ∀ {i : Nat}, k < i → tAt l t vs i s = vs k
 | 0, h => by omega
 | i + 1, h => by
  simp only [tAt]
  by_cases e : k = i
  ·subst e
   cases hx : l[k]? with
   | none => simp [hx] at h2
   | some x =>
    simp only [hx, Option.bind_some] at h2
    simp [put, h2, upd]
  ·have ih := gN_ hd h2 (show k < i by omega)
   cases hx : l[i]? with
   | none => exact ih
   | some x =>
    cases hdst : x.dst with
    | none => simpa [put, hdst] using ih
    | some d =>
     have : s ≠ d := fun q => by
      subst q
      exact e (hd k i s h2 (by simp [hx, hdst]))
     simp only [put, hdst, upd, this, if_false]; exact ih
theorem eW_ {s : Nat} : ∀ {i : Nat}, (∀ k, k < i → (l[k]?).bind (·.dst) ≠ some s) → tAt l t vs i s = t s
 | 0, _ => rfl
 | i + 1, h => by
  simp only [tAt]
  have ih := eW_ (fun k hk => h k (by omega)) (i := i)
  cases hx : l[i]? with
  | none => exact ih
  | some x =>
   cases hdst : x.dst with
   | none => simpa [put, hdst] using ih
   | some d =>
    have : s ≠ d := fun q => by
     subst q
     exact h i (by omega) (by simp [hx, hdst])
    simp only [put, hdst, upd, this, if_false]; exact ih
end
structure kd_ (ops : Array Oper) (l : List LI) : Prop where
 len : l.length = ops.size
 quiet : ∀ (i : Nat) (x : LI), l[i]? = some x → x.op.quiet = true
 dst : ∀ (i : Nat) (x : LI), l[i]? = some x → ∃ d, x.dst = some d
 back : ∀ (i : Nat) (o : Oper) (e : Edge), ops[i]? = some o → e ∈ o.after → Region.binds .any e = true → e.on < i
 one : ∀ (i k : Nat) (d : Nat), (l[i]?).bind (·.dst) = some d → (l[k]?).bind (·.dst) = some d → i = k
 before : ∀ (i k : Nat) (x : LI) (d : Nat), l[i]? = some x → (l[k]?).bind (·.dst) = some d → d ∈ x.reads → k < i → bN_ ops i k = true
 behind : ∀ (i k : Nat) (x : LI) (d : Nat), l[i]? = some x → (l[k]?).bind (·.dst) = some d → d ∈ x.reads → ¬ k < i → k ≠ i ∧ bN_ ops k i = true
theorem jC_ {ops : Array Oper} {l : List LI} (h : hD_ ops l = true) : kd_ ops l := by
 simp only [hD_, Bool.and_eq_true, beq_iff_eq, all_eq_true] at h
 obtain ⟨h0, h1⟩ := h
 have hz : ∀ {i : Nat} {x : LI}, l[i]? = some x → (x, i) ∈ l.zipIdx := by
  intro i x hx
  exact mem_iff_getElem?.2 ⟨i, by simp [hx]⟩
 have bd : ∀ {k : Nat} {d : Nat}, (l[k]?).bind (·.dst) = some d → ∃ y, l[k]? = some y ∧ y.dst = some d := by
  intro k d hk
  cases hy : l[k]? with
  | none => simp [hy] at hk
  | some y => exact ⟨y, rfl, by simpa [hy] using hk⟩
 have pair : ∀ {i k : Nat} {x y : LI}, l[i]? = some x → l[k]? = some y → k ≠ i → h6_ ops i k x y = true ∧ ¬ x.dst = y.dst := by
  intro i k x y hx hy hki
  have := (h1 (x, i) (hz hx)).2 (y, k) (hz hy)
  simp only [Bool.or_eq_true, beq_iff_eq, Bool.and_eq_true, Bool.not_eq_true'] at this
  rcases this with q | q
  ·exact absurd q hki
  ·exact ⟨q.1, by simpa using q.2⟩
 refine ⟨h0, fun i x hx => (h1 (x, i) (hz hx)).1.1.1, fun i x hx => ?_, fun i o e ho he hb => ?_, fun i k d hi hk => ?_, fun i k x d hx hk hd hlt => ?_, fun i k x d hx hk hd hlt => ?_⟩
 ·have := (h1 (x, i) (hz hx)).1.1.2
  simp only at this
  split at this
  ·rename_i d hd; exact ⟨d, hd⟩
  ·simp at this
 ·have hi : i < l.length := by
   rw [h0]; rcases Array.getElem?_eq_some_iff.1 ho with ⟨q, _⟩; exact q
  have := (h1 (l[i], i) (hz (getElem?_eq_getElem hi))).1.2
  simp only [ho] at this
  rw [Array.all_eq_true] at this
  obtain ⟨j, hj, e2⟩ := Array.mem_iff_getElem.1 he
  have := this j hj
  rw [e2, hb] at this
  simpa using this
 ·obtain ⟨x, hx, hxd⟩ := bd hi
  obtain ⟨y, hy, hyd⟩ := bd hk
  by_cases e : i = k
  ·exact e
  ·exact absurd (by rw [hxd, hyd]) (pair hx hy (fun q => e q.symm)).2
 ·obtain ⟨y, hy, hyd⟩ := bd hk
  have := (pair hx hy (by omega)).1
  simp only [h6_, hyd] at this
  simpa [hd, hlt] using this
 ·obtain ⟨y, hy, hyd⟩ := bd hk
  have hne : k ≠ i := by
   intro e
   subst e
   rw [hx] at hy; simp at hy; subst hy
   have := (h1 (x, k) (hz hx)).1.1.2
   simp only [hyd] at this
   simp [hd] at this
  have := (pair hx hy hne).1
  simp only [h6_, hyd] at this
  exact ⟨hne, by simpa [hd, hlt] using this⟩
theorem e5_ {ops : Array Oper} {listed : Array Bool} {i : Nat} (h : i ∈ Region.ready .any ops listed) : i < ops.size ∧ listed.getD i true = false ∧ ∀ o e, ops[i]? = some o → e ∈ o.after → Region.binds .any e = true → listed.getD e.on false = true := by
 simp only [Region.ready, mem_filter, mem_range, Bool.and_eq_true, Bool.not_eq_true'] at h
 obtain ⟨h1, h2, h3⟩ := h
 refine ⟨h1, h2, fun o e ho he hb => ?_⟩
 rw [ho] at h3
 simp only [Option.map_some, Option.getD_some] at h3
 rw [Array.all_eq_true] at h3
 obtain ⟨j, hj, e2⟩ := Array.mem_iff_getElem.1 he
 have := h3 j hj
 rw [e2, hb] at this
 simpa using this
theorem lV_ {ops : Array Oper} {l : List LI} (hd : kd_ ops l) {listed : Array Bool} (hs : listed.size = ops.size) (h : Region.ready .any ops listed = []) : ∀ i, i < ops.size → listed.getD i false = true := by
 intro i
 induction i using Nat.strongRecOn with
 | _ i ih =>
  intro hi
  cases hq : listed.getD i false with
  | true => rfl
  | false =>
   have : i ∈ Region.ready .any ops listed := by
    simp only [Region.ready, mem_filter, mem_range, Bool.and_eq_true, Bool.not_eq_true']
    refine ⟨hi, ?_, ?_⟩
    ·rw [Array.getD_eq_getD_getElem?, Array.getElem?_eq_getElem (by omega)] at hq ⊢
     simpa using hq
    ·have ho := Array.getElem?_eq_getElem hi
     rw [ho]
     simp only [Option.map_some, Option.getD_some]
     rw [Array.all_eq_true]
     intro j hj
     cases hb : Region.binds .any ops[i].after[j] with
     | false => simp
     | true =>
      have hlt := hd.back i _ ops[i].after[j] ho (Array.getElem_mem hj) hb
      simp [ih _ hlt (by omega)]
   rw [h] at this
   simp at this
theorem h2_ {P : Program} {N : Nat} {ops : Array Oper} : ∀ {os : List Oper} {l : List LI}, os.mapM (bP_ P N ops) = some l → ∀ (i : Nat) (o : Oper), os[i]? = some o → ∃ x, l[i]? = some x ∧ bP_ P N ops o = some x
 | [], l, _, i, o, hi => by simp at hi
 | o0 :: os, l, h, i, o, hi => by
  rw [mapM_cons] at h
  cases h1 : bP_ P N ops o0 with
  | none => simp [h1] at h
  | some x0 =>
   cases h2 : os.mapM (bP_ P N ops) with
   | none => simp [h1, h2] at h
   | some l' =>
    simp [h1, h2] at h
    subst h
    cases i with
    | zero => simp at hi; subst hi; exact ⟨x0, rfl, h1⟩
    | succ i =>
     simp at hi
     simpa using h2_ h2 i o hi
theorem cj_ {ops : Array Oper} {i k : Nat} (h : bN_ ops i k = true) : ∃ o e, ops[i]? = some o ∧ e ∈ o.after ∧ Region.binds .any e = true ∧ e.on = k := by
 unfold bN_ at h
 split at h
 ·rename_i o ho
  rw [Array.any_eq_true] at h
  obtain ⟨j, hj, h1⟩ := h
  simp only [Bool.and_eq_true, beq_iff_eq] at h1
  exact ⟨o, o.after[j], ho, Array.getElem_mem hj, h1.1, h1.2⟩
 ·simp at h
theorem di_ {listed : Array Bool} {i k : Nat} (hi : i < listed.size) : (listed.setIfInBounds i true).getD k false = if k = i then true else listed.getD k false := by
 rw [Array.getD_eq_getD_getElem?, Array.getElem?_setIfInBounds]
 by_cases e : i = k
 ·subst e; simp [hi]
 ·have : ¬ k = i := fun q => e q.symm
  simp [e, this, Array.getD_eq_getD_getElem?]
section
variable {P : Program} {N : Nat} {ops : Array Oper} {l : List LI} {t : Nat → AV} {vs : Nat → AV} {h : List Row} {S0 : Sit} {w0 : World} {Q : Exit → Act → World → Prop}
theorem qz_ {l0 : List LI} (hgl : cY_ P S0) (hl : ops.toList.mapM (bP_ P N ops) = some l0) (hl0 : l = l0.map LI.asImm) (hd : kd_ ops l)
 (hrun : ∀ (k : Nat) (x : LI), l[k]? = some x → match b1_ (tAt l t vs k) x.guard with
   | some true => qWp P (tAt l t vs k) h (fun v => v = vs k) x.op
   | some false => vs k = .val Go.undef
   | none => False)
 (hQ : ∀ S a w, a8_ S0 w0 S w → ae_ S h w → Rel S N (tAt l t vs l.length) a → Q .normal a w) :
 ∀ (fuel : Nat) (listed : Array Bool) (S : Sit) (a : Act) (w : World), listed.toList.countP (fun b => !b) ≤ fuel → listed.size = ops.size →
  (∀ k o e, listed.getD k false = true → ops[k]? = some o → e ∈ o.after → Region.binds .any e = true → listed.getD e.on false = true) →
  a8_ S0 w0 S w → ae_ S h w → Rel S N (dF_ l t vs listed) a → wpAny P .any ops Q fuel listed a w := by
 have fin : ∀ (listed : Array Bool) (S : Sit) (a : Act) (w : World), listed.size = ops.size → Region.ready .any ops listed = [] → a8_ S0 w0 S w → ae_ S h w → Rel S N (dF_ l t vs listed) a → Q .normal a w := by
  intro listed S a w hs hn st hm hr
  have hall := lV_ hd hs hn
  have e : dF_ l t vs listed = tAt l t vs l.length := by
   funext s
   by_cases q : ∃ k : Nat, (l[k]?).bind (fun y : LI => y.dst) = some s
   ·obtain ⟨k, hk⟩ := q
    have hk' : k < l.length := by
     cases hx : l[k]? with
     | none => simp [hx] at hk
     | some x => rcases List.getElem?_eq_some_iff.1 hx with ⟨q, _⟩; exact q
    rw [cN_ hd.one hk' (hall k (by rw [← hd.len]; exact hk')) hk, gN_ hd.one hk hk']
   ·rw [co_ (fun k _ e => q ⟨k, e⟩), eW_ (fun k _ e => q ⟨k, e⟩)]
  rw [e] at hr
  exact hQ S a w st hm hr
 intro fuel
 induction fuel with
 | zero =>
  intro listed S a w hc hs hcl st hm hr
  have hno : Region.ready .any ops listed = [] := by
   rcases eq_nil_or_concat (Region.ready .any ops listed) with q | ⟨ys, y, q⟩
   ·exact q
   ·exfalso
    have hy : y ∈ Region.ready .any ops listed := by rw [q]; simp
    obtain ⟨h1, h2, _⟩ := e5_ hy
    have : listed.toList.countP (fun b => !b) = 0 := by omega
    rw [countP_eq_zero] at this
    have hmem : listed.getD y true ∈ listed.toList := by
     rw [Array.getD_eq_getD_getElem?, Array.getElem?_eq_getElem (by omega)]
     simp
    have := this _ hmem
    rw [h2] at this
    simp at this
  exact ⟨hno, fin listed S a w hs hno st hm hr⟩
 | succ fuel ih =>
  intro listed S a w hc hs hcl st hm hr
  refine ⟨fun hno => fin listed S a w hs hno st hm hr, fun i hi => ?_⟩
  obtain ⟨i1, i2, i3⟩ := e5_ hi
  have ho : ops[i]? = some ops[i] := Array.getElem?_eq_getElem i1
  obtain ⟨x0, hx0, hlow⟩ := h2_ hl i ops[i] (by simp)
  obtain ⟨low1, low2, low3', jZ_, _⟩ := dT_ hlow
  obtain ⟨x, hxe⟩ : ∃ x, x = x0.asImm := ⟨_, rfl⟩
  have hx : l[i]? = some x := by rw [hl0, getElem?_map, hx0, hxe]; rfl
  have ej_ : ops[i].dst = x.dst := by rw [hxe]; exact low3'
  have hxg : x.guard = x0.guard := by rw [hxe]; rfl
  have hxo : x.op = x0.op.asImm := by rw [hxe]; rfl
  obtain ⟨d, hxd⟩ := hd.dst i x hx
  have hil : i < l.length := by rw [hd.len]; exact i1
  have hi2 : listed.getD i false = false := by
   rw [Array.getD_eq_getD_getElem?, Array.getElem?_eq_getElem (by omega)] at i2 ⊢
   simpa using i2
  have hreads : ∀ s ∈ x.reads, dF_ l t vs listed s = tAt l t vs i s := by
   intro s hsr
   by_cases q : ∃ k : Nat, (l[k]?).bind (fun y : LI => y.dst) = some s
   ·obtain ⟨k, hk⟩ := q
    have hk' : k < l.length := by
     cases hx : l[k]? with
     | none => simp [hx] at hk
     | some x => rcases List.getElem?_eq_some_iff.1 hx with ⟨q, _⟩; exact q
    by_cases hki : k < i
    ·obtain ⟨o, e, ho', he, hb, hon⟩ := cj_ (hd.before i k x s hx hk hsr hki)
     have hkl := i3 o e ho' he hb
     rw [hon] at hkl
     rw [cN_ hd.one hk' hkl hk, gN_ hd.one hk hki]
    ·obtain ⟨hne, hedge⟩ := hd.behind i k x s hx hk hsr hki
     obtain ⟨o, e, ho', he, hb, hon⟩ := cj_ hedge
     have hkn : listed.getD k false ≠ true := by
      intro hkl
      have := hcl k o e hkl ho' he hb
      rw [hon, hi2] at this
      simp at this
     rw [co_, eW_]
     ·intro k' hk' e
      have := hd.one k k' s hk e
      omega
     ·intro k' hk'' e
      have := hd.one k k' s hk e
      subst this
      exact hkn hk''
   ·rw [co_ (fun k _ e => q ⟨k, e⟩), eW_ (fun k _ e => q ⟨k, e⟩)]
  have hcurset : dF_ l t vs (listed.setIfInBounds i true) = put (dF_ l t vs listed) x.dst (vs i) := by
   funext s
   rw [hxd]
   simp only [put, upd]
   have hdi : (l[i]?).bind (·.dst) = some d := by simp [hx, hxd]
   by_cases e : s = d
   ·subst e
    rw [if_pos rfl, cN_ hd.one hil (by rw [di_ (by omega)]; simp) hdi]
   ·rw [if_neg e]
    by_cases q : ∃ k, listed.getD k false = true ∧ (l[k]?).bind (·.dst) = some s
    ·obtain ⟨k, hk1, hk⟩ := q
     have hk' : k < l.length := by
      cases hx : l[k]? with
      | none => simp [hx] at hk
      | some x => rcases List.getElem?_eq_some_iff.1 hx with ⟨q, _⟩; exact q
     rw [cN_ hd.one hk' (by rw [di_ (by omega)]; split <;> simp_all) hk, cN_ hd.one hk' hk1 hk]
    ·rw [co_ (fun k hk e' => q ⟨k, hk, e'⟩), co_]
     intro k hk e'
     rw [di_ (by omega)] at hk
     split at hk
     ·rename_i eki
      subst eki
      rw [hdi] at e'
      simp at e'
      exact e e'.symm
     ·exact q ⟨k, hk, e'⟩
  have hcl' : ∀ k o e, (listed.setIfInBounds i true).getD k false = true → ops[k]? = some o → e ∈ o.after → Region.binds .any e = true → (listed.setIfInBounds i true).getD e.on false = true := by
   intro k o e hk ho' he hb
   rw [di_ (by omega)] at hk ⊢
   split at hk
   ·rename_i eki
    subst eki
    have := i3 o e ho' he hb
    split
    ·rfl
    ·exact this
   ·have := hcl k o e hk ho' he hb
    split
    ·rfl
    ·exact this
  have hcnt : (listed.setIfInBounds i true).toList.countP (fun b => !b) ≤ fuel := by
   have hlt : i < listed.toList.length := by simp; omega
   have hv : listed.toList[i] = false := by
    rw [Array.getD_eq_getD_getElem?, Array.getElem?_eq_getElem (by omega)] at hi2
    simpa using hi2
   rw [Array.toList_setIfInBounds, countP_set hlt, hv]
   simp only [Bool.not_false, Bool.not_true, if_true, Bool.false_eq_true, if_false]
   omega
  have next : ∀ v S' w', a8_ S w S' w' → ae_ S' h w' → Rep S' (vs i) v → wpAny P .any ops Q fuel (listed.setIfInBounds i true) (a.put ops[i].dst v) w' := by
   intro v S' w' st' hm' rv
   refine ih _ S' _ w' hcnt (by simp [hs]) hcl' (st.trans st') hm' ?_
   rw [hcurset, ej_]
   exact (hr.up st'.le).put rv
  have hrun' := hrun i x hx
  rw [← jy_ hreads] at hrun'
  simp only [wpOp, ho]
  cases hw : b1_ (dF_ l t vs listed) x.guard with
  | none => rw [hw] at hrun'; exact hrun'.elim
  | some q =>
   rw [hw] at hrun'
   rw [ei_ hlow hr (hxg ▸ hw)]
   cases q with
   | true =>
    simp only [if_true]
    left
    have hq := qa_ x.op (fun y hy => (dC_ hreads y hy).symm) hrun'
    refine mK_ (Q := Q) low1 low2 hm (hgl.up st.le) hr (hxo ▸ wh_ (hd.quiet i x hx) hq) ?_
    rintro v av S' h' w' st' hm' rv ⟨e1, e2⟩
    subst e1 e2
    exact next v S' w' st' hm' rv
   | false =>
    simp only [Bool.false_eq_true, if_false]
    refine next _ S w (a8_.refl _ _) hm ?_
    rw [hrun']
    simp [Rep]
theorem o0_ {id : Nat} {S : Sit} {w : World} {a : Act} {K : (Nat → AV) → Prop} (hmx : P.follows .mixedOrders = true) {l0 : List LI} (hl : ops.toList.mapM (bP_ P N ops) = some l0) (hl0 : l = l0.map LI.asImm) (hok : hD_ ops l = true) (hw : gV_ P h l t K) (hm : ae_ S h w) (hgl : cY_ P S) (hr : Rel S N t a)
 (hQ : ∀ S' t' a' w', a8_ S w S' w' → ae_ S' h w' → Rel S' N t' a' → K t' → Q .normal a' w') : (Code.region id ops true).wp P Q a w := by
 have hd := jC_ hok
 obtain ⟨vs, _, h2, h3⟩ := nj_ l.length l 0 t (fun _ => .undef) (by omega) (by simpa [tAt] using hw)
 refine wp_region_any hmx ?_
 have hcur : dF_ l t vs (Array.replicate ops.size false) = t := by
  funext s
  refine co_ fun k hk => ?_
  exfalso
  rw [Array.getD_eq_getD_getElem?] at hk
  by_cases q : k < ops.size
  ·rw [Array.getElem?_eq_getElem (by simpa using q)] at hk; simp at hk
  ·rw [Array.getElem?_eq_none (by simpa using q)] at hk; simp at hk
 have hm' : ae_ S h { w with drawn := w.drawn + 1 } := hm.moved rfl
 have hst : a8_ S w S { w with drawn := w.drawn + 1 } := ⟨.refl S, rfl, rfl, rfl, Nat.le_refl _, fun _ _ _ => rfl, fun _ q => .inl q, fun _ _ q => .inl q⟩
 refine qz_ (S0 := S) (w0 := w) hgl hl hl0 hd (fun k x hx => h3 k x (Nat.zero_le _) hx) (fun S' a' w' st hm' hr' => hQ S' _ a' w' st hm' hr' h2) ops.size _ S a _ ?_ (by simp) ?_ hst hm' (by rw [hcur]; exact hr)
 ·have := countP_le_length (p := fun b : Bool => !b) (l := (Array.replicate ops.size false).toList)
  simpa using this
 ·intro k o e hk
  exfalso
  rw [Array.getD_eq_getD_getElem?] at hk
  by_cases q : k < ops.size
  ·rw [Array.getElem?_eq_getElem (by simpa using q)] at hk; simp at hk
  ·rw [Array.getElem?_eq_none (by simpa using q)] at hk; simp at hk
end
theorem g3_ {T : Nat → AV} {h : List Row} : ∀ {l : List LI} {x : LI}, holds T h l → x ∈ l → ∃ d, x.dst = some d ∧ ai_ T h x.op = some (T d)
 | [], x, _, hx => by simp at hx
 | i :: r, x, hh, hx => by
  unfold holds at hh
  rcases mem_cons.1 hx with e | e
  ·subst e
   have := hh.1
   cases hd : x.dst with
   | none => rw [hd] at this; exact this.elim
   | some d => rw [hd] at this; exact ⟨d, rfl, this⟩
  ·exact g3_ hh.2 e
theorem qm_ {P : Program} {t : Nat → AV} {h : List Row} {K : AV → List Row → Prop} {op : LOp} (hc : op.calm = true) {v : AV} (he : ai_ t h op = some v) (hk : K v h) : aZ_ P t h K op := by
 cases op <;> simp only [LOp.calm, Bool.false_eq_true] at hc <;> simp only [aZ_, he] <;> exact hk
theorem pD_ {P : Program} {t t' : Nat → AV} {h : List Row} {K : AV → List Row → Prop} (op : LOp) (e : ∀ x ∈ op.operands, ak_ t x = ak_ t' x) (q : aZ_ P t h K op) : aZ_ P t' h K op := by
 have hev := d4_ (h := h) op e
 have parts_eq : ∀ (parts : List (Nat × Operand)), (∀ p ∈ parts, ak_ t p.2 = ak_ t' p.2) → ch_ t' parts = ch_ t parts := by
  intro parts h0
  unfold ch_
  induction parts with
  | nil => rfl
  | cons p ps ih => rw [mapM_cons, mapM_cons, h0 p (by simp), ih (fun p hp => h0 p (by simp [hp]))]
 cases op with
 | call f args =>
  simp only [aZ_] at q ⊢
  rw [← map_congr_left (l := args) (fun x hx => e x (by simpa [LOp.operands] using hx))]; exact q
 | callv f args =>
  simp only [aZ_] at q ⊢
  rw [← e f (by simp [LOp.operands]), ← map_congr_left (l := args) (fun x hx => e x (by simp [LOp.operands, hx]))]; exact q
 | alloc E z => simpa only [aZ_] using q
 | mkMap => simpa only [aZ_] using q
 | box E x => simp only [aZ_] at q ⊢; rw [← e x (by simp [LOp.operands])]; exact q
 | toBytes E x => simp only [aZ_] at q ⊢; rw [← e x (by simp [LOp.operands])]; exact q
 | clip0 E sz x => simp only [aZ_] at q ⊢; rw [← e x (by simp [LOp.operands])]; exact q
 | isNil neg x => simp only [aZ_] at q ⊢; rw [← e x (by simp [LOp.operands])]; exact q
 | slice3 x lo hi mx => simp only [aZ_] at q ⊢; rw [← e x (by simp [LOp.operands]), ← e lo (by simp [LOp.operands]), ← e hi (by simp [LOp.operands]), ← e mx (by simp [LOp.operands])]; exact q
 | capSl x => simp only [aZ_] at q ⊢; rw [← e x (by simp [LOp.operands])]; exact q
 | copySl sz x y => simp only [aZ_] at q ⊢; rw [← e x (by simp [LOp.operands]), ← e y (by simp [LOp.operands])]; exact q
 | ovl x y => simp only [aZ_] at q ⊢; rw [← e x (by simp [LOp.operands]), ← e y (by simp [LOp.operands])]; exact q
 | appendZ E sz b z x k => simp only [aZ_] at q ⊢; rw [← e x (by simp [LOp.operands]), ← e k (by simp [LOp.operands])]; exact q
 | appendS E x y => simp only [aZ_] at q ⊢; rw [← e x (by simp [LOp.operands]), ← e y (by simp [LOp.operands])]; exact q
 | clear E sz z x => simp only [aZ_] at q ⊢; rw [← e x (by simp [LOp.operands])]; exact q
 | store n a x => simp only [aZ_] at q ⊢; rw [← e a (by simp [LOp.operands]), ← e x (by simp [LOp.operands])]; exact q
 | mkSlice E sz b z l c => simp only [aZ_] at q ⊢; rw [← e l (by simp [LOp.operands]), ← e c (by simp [LOp.operands])]; exact q
 | append E sz b x y => simp only [aZ_] at q ⊢; rw [← e x (by simp [LOp.operands]), ← e y (by simp [LOp.operands])]; exact q
 | mapUpd m k v => simp only [aZ_] at q ⊢; rw [← e m (by simp [LOp.operands]), ← e k (by simp [LOp.operands]), ← e v (by simp [LOp.operands])]; exact q
 | buildSlice E sz z len parts =>
  simp only [aZ_] at q ⊢
  rw [parts_eq parts (fun p hp => e p.2 (by simp only [LOp.operands]; exact mem_map.2 ⟨p, hp, rfl⟩))]; exact q
 | buildImm E sz z len parts =>
  simp only [aZ_] at q ⊢
  rw [parts_eq parts (fun p hp => e p.2 (by simp only [LOp.operands]; exact mem_map.2 ⟨p, hp, rfl⟩))]; exact q
 | _ =>
  simp only [aZ_] at q ⊢
  rw [← hev]; exact q
structure hQ_ (ops : Array Oper) (l : List LI) : Prop where
 len : l.length = ops.size
 grd : ∀ i, i < l.length → (gat l i).guard = Option.none
 back : ∀ (i : Nat) (o : Oper) (e : Edge), ops[i]? = some o → e ∈ o.after → Region.binds .any e = true → e.on < i
 pdst : ∀ i, i < l.length → bG_ ops l i = false → ∃ d, (gat l i).dst = some d
 one : ∀ (i k d : Nat), i < l.length → k < l.length → (gat l i).dst = some d → (gat l k).dst = some d → i = k
 rd : ∀ (i k d : Nat), i < l.length → k < l.length → (gat l k).dst = some d → d ∈ (gat l i).reads → (k < i ∧ bN_ ops i k = true) ∨ (i < k ∧ bG_ ops l k = true ∧ bN_ ops k i = true)
 chn : ∀ (q q' c c' : Nat), (chI ops l)[q]? = some c → (chI ops l)[q']? = some c' → q' < q → c8_ l c = false → eV_ ops l c' = false → ew_ ops l.length c c' = true
 edg : ∀ (q q' c c' : Nat), (chI ops l)[q]? = some c → (chI ops l)[q']? = some c' → q' < q → bN_ ops c' c = false
theorem lp_ {R : Nat → Nat → Bool} : ∀ {l : List Nat}, pn_ R l = true → ∀ (q q' c c' : Nat), l[q]? = some c → l[q']? = some c' → q' < q → R c' c = true
 | [], _, q, q', c, c', h, _, _ => by simp at h
 | a :: l, h, q, q', c, c', h1, h2, hlt => by
  rw [pn_, Bool.and_eq_true, all_eq_true] at h
  cases q with
  | zero => omega
  | succ q =>
   rw [getElem?_cons_succ] at h1
   cases q' with
   | zero =>
    rw [getElem?_cons_zero, Option.some.injEq] at h2
    subst h2
    exact h.1 c (mem_of_getElem? h1)
   | succ q' =>
    rw [getElem?_cons_succ] at h2
    exact lp_ h.2 q q' c c' h1 h2 (by omega)
theorem lE_ : ∀ {l : List Nat}, kw_ l = true → l.Nodup
 | [], _ => nodup_nil
 | a :: l, h => by
  rw [kw_, Bool.and_eq_true] at h
  exact nodup_cons.2 ⟨by simpa using h.1, lE_ h.2⟩
theorem kW_ {ops : Array Oper} {l : List LI} {c : Nat} : c ∈ chI ops l ↔ c < l.length ∧ bG_ ops l c = true := by
 have hb : c ∈ chB ops l ↔ c < l.length ∧ bG_ ops l c = true := by
  unfold chB
  rw [mem_filter, mem_range]
 unfold chI
 split
 ·rename_i h
  simp only [jX_, Bool.and_eq_true, all_eq_true] at h
  rw [← hb]
  exact ⟨fun q => by simpa using h.1.2 c q, fun q => by simpa using h.2 c q⟩
 ·exact hb
theorem qf_ {ops : Array Oper} {l : List LI} : (chI ops l).Nodup := by
 unfold chI
 split
 ·rename_i h
  simp only [jX_, Bool.and_eq_true] at h
  exact lE_ h.1.1
 ·exact List.Pairwise.filter _ nodup_range
theorem n2_ {ops : Array Oper} {l : List LI} (h : hS_ ops l = true) : hQ_ ops l := by
 simp only [hS_, Bool.and_eq_true, beq_iff_eq, all_eq_true, mem_range] at h
 obtain ⟨⟨h0, h1⟩, h2⟩ := h
 refine ⟨h0, fun i hi => ?_, fun i o e ho he hb => ?_, fun i hi hc => ?_, fun i k d hi hk h3 h4 => ?_, fun i k d hi hk h3 h4 => ?_, fun q q' c c' h3 h4 hlt hfl hsl => ?_, fun q q' c c' h3 h4 hlt => ?_⟩
 ·have := (h1 i hi).1.1.1
  simpa using this
 ·have hi : i < l.length := by rw [h0]; exact (Array.getElem?_eq_some_iff.1 ho).1
  have := (h1 i hi).1.1.2
  rw [ho] at this
  simp only at this
  rw [Array.all_eq_true] at this
  obtain ⟨j, hj, e2⟩ := Array.mem_iff_getElem.1 he
  have := this j hj
  rw [e2, hb] at this
  simpa using this
 ·have := (h1 i hi).1.2
  rw [hc, Bool.false_or] at this
  exact Option.isSome_iff_exists.1 this
 ·have := (h1 i hi).2 k hk
  rw [h4] at this
  simp only [Bool.and_eq_true, Bool.or_eq_true, beq_iff_eq, Bool.not_eq_true'] at this
  rcases this.1 with q | q
  ·exact q.symm
  ·rw [h3] at q; simp at q
 ·have := (h1 i hi).2 k hk
  rw [h3] at this
  simp only [Bool.and_eq_true, Bool.or_eq_true, beq_iff_eq, Bool.not_eq_true', decide_eq_true_eq] at this
  rcases this.2 with (q | q) | q
  ·have : (gat l i).reads.contains d = true := by simpa using h4
   rw [this] at q; cases q
  ·exact .inl q
  ·exact .inr ⟨q.1.1, q.1.2, q.2⟩
 ·have := lp_ h2 q q' c c' h3 h4 hlt
  rw [Bool.and_eq_true] at this
  simpa [hfl, hsl] using this.1
 ·have := lp_ h2 q q' c c' h3 h4 hlt
  rw [Bool.and_eq_true] at this
  simpa using this.2
section
variable {P : Program} {N : Nat} {ops : Array Oper} {l : List LI} {t0 : Nat → AV} {S0 : Sit} {w0 : World} {Q : Exit → Act → World → Prop} {K : (Nat → AV) → List Row → Prop}
def dM_ (l : List LI) (t0 T : Nat → AV) (A W : Nat → Bool) (s : Nat) : AV :=
 if (List.range l.length).any (fun k => W k && (gat l k).dst == some s) then .undef
 else if (List.range l.length).any (fun k => A k && (gat l k).dst == some s) then T s else t0 s
theorem fK_ {A : Nat → Bool} {s : Nat} : (List.range l.length).any (fun k => A k && (gat l k).dst == some s) = true ↔ ∃ k, k < l.length ∧ A k = true ∧ (gat l k).dst = some s := by
 rw [any_eq_true]
 constructor
 ·rintro ⟨k, h1, h2⟩
  simp only [Bool.and_eq_true, beq_iff_eq] at h2
  exact ⟨k, mem_range.1 h1, h2.1, h2.2⟩
 ·rintro ⟨k, h1, h2, h3⟩
  exact ⟨k, mem_range.2 h1, by rw [h2, h3]; simp⟩
theorem fW_ {A W : Nat → Bool} {T : Nat → AV} {k s : Nat} (h1 : k < l.length) (h2 : W k = true) (h3 : (gat l k).dst = some s) : dM_ l t0 T A W s = .undef :=
 if_pos (fK_.2 ⟨k, h1, h2, h3⟩)
theorem eX_ {A W : Nat → Bool} {T : Nat → AV} {k s : Nat} (h1 : k < l.length) (h2 : A k = true) (h3 : (gat l k).dst = some s) (h4 : ∀ k, k < l.length → W k = true → (gat l k).dst ≠ some s) : dM_ l t0 T A W s = T s := by
 unfold dM_
 rw [if_neg (fun q => by obtain ⟨k, q1, q2, q3⟩ := fK_.1 q; exact h4 k q1 q2 q3), if_pos (fK_.2 ⟨k, h1, h2, h3⟩)]
theorem e9_ {A W : Nat → Bool} {T : Nat → AV} {s : Nat} (h : ∀ k, k < l.length → A k = true → (gat l k).dst ≠ some s) (h4 : ∀ k, k < l.length → W k = true → (gat l k).dst ≠ some s) : dM_ l t0 T A W s = t0 s := by
 unfold dM_
 rw [if_neg (fun q => by obtain ⟨k, q1, q2, q3⟩ := fK_.1 q; exact h4 k q1 q2 q3), if_neg (fun q => by obtain ⟨k, q1, q2, q3⟩ := fK_.1 q; exact h k q1 q2 q3)]
def fY_ (ops : Array Oper) (L : Array Bool) (i : Nat) : Prop := ∀ o e, ops[i]? = some o → e ∈ o.after → Region.binds .any e = true → L.getD e.on false = true
theorem fo_ {L : Array Bool} (hcl : ∀ k, L.getD k false = true → fY_ ops L k) : ∀ (f i k : Nat), fY_ ops L i → ew_ ops f i k = true → L.getD k false = true
 | 0, i, k, _, h => by simp [ew_] at h
 | f + 1, i, k, hi, h => by
  rw [ew_, Bool.or_eq_true] at h
  have edge : ∀ m, bN_ ops i m = true → L.getD m false = true := by
   intro m hm
   obtain ⟨o, e, h1, h2, h3, h4⟩ := cj_ hm
   have := hi o e h1 h2 h3
   rwa [h4] at this
  rcases h with h | h
  ·exact edge k h
  ·obtain ⟨m, _, h2⟩ := any_eq_true.1 h
   rw [Bool.and_eq_true] at h2
   exact fo_ hcl f m k (hcl m (edge m h2.1)) h2.2
def a6_ (ops : Array Oper) (l : List LI) (L : Array Bool) (j k : Nat) : Bool := L.getD k false && c8_ l k && !((chI ops l).take j).contains k
def aS_ (ops : Array Oper) (l : List LI) (L : Array Bool) (j k : Nat) : Bool := L.getD k false && !(c8_ l k && !((chI ops l).take j).contains k)
structure Gm (P : Program) (ops : Array Oper) (l : List LI) (t0 : Nat → AV) (K : (Nat → AV) → List Row → Prop) (L : Array Bool) (j : Nat) (T : Nat → AV) (h : List Row) : Prop where
 ch : ∀ q c, (chI ops l)[q]? = some c → (q < j → eV_ ops l c = false → L.getD c false = true) ∧ (c8_ l c = false → L.getD c false = true → q < j)
 pre : ∀ p, p ∈ my_ ops l → L.getD p false = false → ∃ d, (gat l p).dst = some d ∧ ai_ T h (gat l p).op = some (T d)
 sl : ∀ q p, (chI ops l)[q]? = some p → q < j → eV_ ops l p = true → L.getD p false = false → ∃ d, (gat l p).dst = some d ∧ ai_ T h (gat l p).op = some (T d)
 old : ∀ q c d, (chI ops l)[q]? = some c → (gat l c).dst = some d → j ≤ q → T d = t0 d
 oth : ∀ s, (∀ c, c < l.length → (gat l c).dst ≠ some s) → T s = t0 s
 run : f7_ P ((chI ops l).drop j |>.map fun c => (gat l c, (kS_ ops l c).map (gat l))) T h K
def FlV (op : LOp) (E : TypeId) (c : Array Value) (v : Value) (b : Nat) : Prop :=
 (∃ z, op = .alloc E z ∧ c = z.cells ∧ v = .pointer (some ⟨b, 0, none⟩)) ∨ ∃ sz z, op = .buildSlice E sz z 0 [] ∧ c = #[] ∧ v = .slice (some ⟨b, 0, none⟩) 0 0
structure Pn (ops : Array Oper) (l : List LI) (w0 : World) (L : Array Bool) (j : Nat) (S : Sit) (a : Act) (w : World) (B : Nat → Nat) : Prop where
 blk : ∀ f, f < l.length → a6_ ops l L j f = true → ∃ E c v d, FlV (gat l f).op E c v (B f) ∧ (gat l f).dst = some d ∧ a.tmps.getD d Go.undef = v ∧
  w.heap[B f]? = some (.cells c E (0, 0)) ∧ ¬ S.owns (B f) ∧ S.imm (B f) = none ∧ w0.heap.size ≤ B f
 ne : ∀ f f', f < l.length → f' < l.length → a6_ ops l L j f = true → a6_ ops l L j f' = true → f ≠ f' → B f ≠ B f'
structure Inv (P : Program) (N : Nat) (ops : Array Oper) (l : List LI) (t0 : Nat → AV) (S0 : Sit) (w0 : World) (K : (Nat → AV) → List Row → Prop) (L : Array Bool) (j : Nat) (T : Nat → AV) (h : List Row) (S : Sit) (a : Act) (w : World) (B : Nat → Nat) : Prop where
 st : a8_ S0 w0 S w
 hm : ae_ S h w
 hr : Rel S N (dM_ l t0 T (aS_ ops l L j) (a6_ ops l L j)) a
 G : Gm P ops l t0 K L j T h
 pn : Pn ops l w0 L j S a w B
theorem pb_ (g : hQ_ ops l) {L : Array Bool} (hs : L.size = ops.size) (h : Region.ready .any ops L = []) : ∀ i, i < ops.size → L.getD i false = true := by
 intro i
 induction i using Nat.strongRecOn with
 | _ i ih =>
  intro hi
  cases hq : L.getD i false with
  | true => rfl
  | false =>
   have : i ∈ Region.ready .any ops L := by
    simp only [Region.ready, mem_filter, mem_range, Bool.and_eq_true, Bool.not_eq_true']
    refine ⟨hi, ?_, ?_⟩
    ·rw [Array.getD_eq_getD_getElem?, Array.getElem?_eq_getElem (by omega)] at hq ⊢
     simpa using hq
    ·have ho := Array.getElem?_eq_getElem hi
     rw [ho]
     simp only [Option.map_some, Option.getD_some]
     rw [Array.all_eq_true]
     intro j hj
     cases hb : Region.binds .any ops[i].after[j] with
     | false => simp
     | true =>
      have hlt := g.back i _ ops[i].after[j] ho (Array.getElem_mem hj) hb
      simp [ih _ hlt (by omega)]
   rw [h] at this
   simp at this
theorem tt_ {k : Nat} (h : k < l.length) : l[k]? = some (gat l k) := by rw [gat, getD_eq_getElem?_getD, getElem?_eq_getElem h]; rfl
theorem nq_ {c : Nat} (h : c < l.length) (hc : bG_ ops l c = true) : ∃ q : Nat, (chI ops l)[q]? = some c := by
 obtain ⟨q, hq, e⟩ := mem_iff_getElem.1 (kW_.2 ⟨h, hc⟩)
 exact ⟨q, by rw [getElem?_eq_getElem hq, e]⟩
theorem dS_ {q c : Nat} (h : (chI ops l)[q]? = some c) : c < l.length ∧ bG_ ops l c = true := kW_.1 (mem_of_getElem? h)
theorem ct_ {T : Nat → AV} {dst : Option Nat} {v : AV} {s : Nat} (h : dst ≠ some s) : put T dst v s = T s := by
 cases dst with
 | none => rfl
 | some d =>
  simp only [put, upd]
  rw [if_neg (fun e => h (by rw [e]))]
theorem hM_ {T : Nat → AV} {v : AV} {s : Nat} : put T (some s) v s = v := by simp [put, upd]
theorem r2_ {T : Nat → AV} {d : Nat} : put T (some d) (T d) = T := by
 funext s
 by_cases e : s = d
 ·subst e; exact hM_
 ·exact ct_ (fun q => e (Option.some.inj q).symm)
theorem jV_ {A A' W W' : Nat → Bool} {i : Nat} (hone : ∀ (i k d : Nat), i < l.length → k < l.length → (gat l i).dst = some d → (gat l k).dst = some d → i = k) (hi : i < l.length) (hA : ∀ k, A' k = if k = i then true else A k) (hW : ∀ k, W' k = if k = i then false else W k) (T : Nat → AV) (v : AV) :
 dM_ l t0 (put T (gat l i).dst v) A' W' = put (dM_ l t0 T A W) (gat l i).dst v := by
 funext s
 by_cases e : (gat l i).dst = some s
 ·have hw : ∀ k, k < l.length → W' k = true → (gat l k).dst ≠ some s := fun k hk hkW hd => by
   have := hone i k s hi hk e hd; subst this
   rw [hW, if_pos rfl] at hkW; cases hkW
  rw [eX_ (k := i) hi (by rw [hA, if_pos rfl]) e hw, e, hM_, hM_]
 ·rw [ct_ e]
  by_cases qw : ∃ k, k < l.length ∧ W k = true ∧ (gat l k).dst = some s
  ·obtain ⟨k, h1, h2, h3⟩ := qw
   have hki : k ≠ i := fun z => e (by rw [← z]; exact h3)
   rw [fW_ h1 h2 h3, fW_ h1 (by rw [hW, if_neg hki]; exact h2) h3]
  ·have hw : ∀ k, k < l.length → W k = true → (gat l k).dst ≠ some s := fun k h1 h2 h3 => qw ⟨k, h1, h2, h3⟩
   have hw' : ∀ k, k < l.length → W' k = true → (gat l k).dst ≠ some s := fun k h1 h2 h3 => by
    rw [hW] at h2
    split at h2
    ·cases h2
    ·exact qw ⟨k, h1, h2, h3⟩
   by_cases q : ∃ k, k < l.length ∧ A k = true ∧ (gat l k).dst = some s
   ·obtain ⟨k, h1, h2, h3⟩ := q
    rw [eX_ h1 h2 h3 hw, eX_ h1 (by rw [hA]; split <;> simp_all) h3 hw', ct_ e]
   ·rw [e9_ (A := A) (fun k h1 h2 h3 => q ⟨k, h1, h2, h3⟩) hw, e9_ _ hw']
    intro k h1 h2 h3
    rw [hA] at h2
    split at h2
    ·rename_i z; subst z; exact e h3
    ·exact q ⟨k, h1, h2, h3⟩
theorem oU_ {A W W' : Nat → Bool} {i : Nat} (hi : i < l.length) (hA : ∀ k, k < l.length → A k = true → k ≠ i) (hone : ∀ (i k d : Nat), i < l.length → k < l.length → (gat l i).dst = some d → (gat l k).dst = some d → i = k) (hW : ∀ k, W' k = if k = i then true else W k) (T : Nat → AV) :
 dM_ l t0 T A W' = put (dM_ l t0 T A W) (gat l i).dst .undef := by
 funext s
 by_cases e : (gat l i).dst = some s
 ·rw [fW_ hi (by rw [hW, if_pos rfl]) e, e, hM_]
 ·rw [ct_ e]
  by_cases qw : ∃ k, k < l.length ∧ W k = true ∧ (gat l k).dst = some s
  ·obtain ⟨k, h1, h2, h3⟩ := qw
   rw [fW_ h1 h2 h3, fW_ h1 (by rw [hW]; split <;> simp_all) h3]
  ·have hw : ∀ k, k < l.length → W k = true → (gat l k).dst ≠ some s := fun k h1 h2 h3 => qw ⟨k, h1, h2, h3⟩
   have hw' : ∀ k, k < l.length → W' k = true → (gat l k).dst ≠ some s := fun k h1 h2 h3 => by
    rw [hW] at h2
    split at h2
    ·rename_i z; subst z; exact e h3
    ·exact qw ⟨k, h1, h2, h3⟩
   by_cases q : ∃ k, k < l.length ∧ A k = true ∧ (gat l k).dst = some s
   ·obtain ⟨k, h1, h2, h3⟩ := q
    rw [eX_ h1 h2 h3 hw, eX_ h1 h2 h3 hw']
   ·rw [e9_ (A := A) (fun k h1 h2 h3 => q ⟨k, h1, h2, h3⟩) hw, e9_ (fun k h1 h2 h3 => q ⟨k, h1, h2, h3⟩) hw']
theorem dV_ {q q' c : Nat} (h : (chI ops l)[q]? = some c) (h' : (chI ops l)[q']? = some c) : q = q' := by
 obtain ⟨h1, e1⟩ := List.getElem?_eq_some_iff.1 h
 obtain ⟨h2, e2⟩ := List.getElem?_eq_some_iff.1 h'
 have hp := pairwise_iff_getElem.1 (qf_ (ops := ops) (l := l))
 by_cases z : q < q'
 ·exact absurd (e1.trans e2.symm) (hp q q' h1 h2 z)
 ·by_cases z' : q' < q
  ·exact absurd (e2.trans e1.symm) (hp q' q h2 h1 z')
  ·omega
theorem ae_.adopt {S : Sit} {h : List Row} {w : World} (m : ae_ S h w) {b : Nat} {E : TypeId} {c : Array Value} {n sz : Nat} {es : List (List AV)} (hb : w.heap[b]? = some (.cells c E (0, 0))) (ho : ¬ S.owns b) (hi : S.imm b = none) (hn : n = es.length) (hwd : ∀ e ∈ es, e.length = sz) (hre : ∀ S' : Sit, am_ S' es c.toList) (hcs : c.size = n * sz) (hmx : n ≤ maxLen) :
 ae_ { imm := S.imm, rows := S.rows ++ [⟨n, some b, n, sz⟩] } (h ++ [⟨.ty E, sz, es⟩]) w := by
 have hle := S.le_push ⟨n, some b, n, sz⟩
 have hrow : ∀ (l : Nat) (i : bF_), (S.rows ++ [⟨n, some b, n, sz⟩])[l]? = some i → S.rows[l]? = some i ∨ (l = S.rows.length ∧ i = ⟨n, some b, n, sz⟩) := by
  intro l i q
  by_cases hl : l < S.rows.length
  ·rw [getElem?_append_left hl] at q; exact .inl q
  ·rw [getElem?_append_right (by omega)] at q
   have : l - S.rows.length = 0 := by
    by_cases z : l - S.rows.length = 0
    ·exact z
    ·obtain ⟨k, hk⟩ := Nat.exists_eq_succ_of_ne_zero z
     rw [hk] at q; simp at q
   rw [this] at q
   simp at q
   exact .inr ⟨by omega, q.symm⟩
 refine ⟨m.imm, by simp [m.len], fun l i r h1 h2 => ?_, fun l l' i i' b' h1 h2 h3 h4 => ?_⟩
 ·rcases hrow l i h1 with q | ⟨q1, q2⟩
  ·have hl : l < h.length := by
    rw [← m.len]; rcases List.getElem?_eq_some_iff.1 q with ⟨q, _⟩; exact q
   rw [getElem?_append_left hl] at h2
   obtain ⟨k1, k2, k3, k4⟩ := m.rows l i r q h2
   refine ⟨k1, k2, k3, ?_⟩
   cases hb' : i.blk with
   | none => rw [hb'] at k4; exact k4
   | some b => rw [hb'] at k4; exact ⟨k4.1, k4.2.le hle rfl⟩
  ·subst q1 q2
   rw [m.len, getElem?_append_right (Nat.le_refl _)] at h2
   simp at h2
   subst h2
   refine ⟨hn, rfl, hwd, hi, ?_⟩
   rw [ba_.ty rfl]
   exact ⟨c, hb, hre _, hcs, Nat.le_refl _, hmx⟩
 ·rcases hrow l i h1 with q | ⟨q1, q2⟩ <;> rcases hrow l' i' h2 with q' | ⟨q1', q2'⟩
  ·exact m.one l l' i i' b' q q' h3 h4
  ·subst q2'; simp at h4; subst h4; exact absurd ⟨l, i, q, h3⟩ ho
  ·subst q2; simp at h3; subst h3; exact absurd ⟨l', i', q', h4⟩ ho
  ·omega
theorem pc_ {P : Program} {S : Sit} {h : List Row} {w : World} {op : LOp} {E : TypeId} {c : Array Value} {v : Value} {b : Nat} (hf : FlV op E c v b) (m : ae_ S h w) (hb : w.heap[b]? = some (.cells c E (0, 0))) (ho : ¬ S.owns b) (hi : S.imm b = none) :
 ∃ (av : AV) (row : Row) (info : bF_), info.blk = some b ∧ (∀ (T : Nat → AV) (K : AV → List Row → Prop), aZ_ P T h K op → K av (h ++ [row])) ∧ ae_ { imm := S.imm, rows := S.rows ++ [info] } (h ++ [row]) w ∧ Rep { imm := S.imm, rows := S.rows ++ [info] } av v := by
 rcases hf with ⟨z, rfl, rfl, rfl⟩ | ⟨sz, z, rfl, rfl, rfl⟩
 ·exact ⟨.ptr h.length 1 0 0, _, ⟨1, some b, 1, z.cells.size⟩, rfl, fun T K hk => hk, ae_.adopt m hb ho hi rfl (by simp) (fun _ => by simp only [am_]; exact ⟨dL_ (fa_ _ _), trivial⟩) (by simp) (by simp [maxLen]), by rw [← m.len]; exact hu_ S 1 _ _ _ _⟩
 ·exact ⟨.own h.length 0, ⟨.ty E, sz, []⟩, ⟨0, some b, 0, sz⟩, rfl, fun T K hk => hk.2.2, ae_.adopt m hb ho hi rfl (by simp) (fun _ => by simp [am_]) (by simp) (by simp), by rw [← m.len]; exact dU_ S 0 _ _ _ _⟩
theorem Rel.reput {S : Sit} {t : Nat → AV} {a : Act} (r : Rel S N t a) {d : Nat} {v : AV} (hx : Rep S v (a.tmps.getD d Go.undef)) : Rel S N (AW.put t (some d) v) a := by
 refine ⟨r.1, r.2.1, fun k hk => ?_⟩
 by_cases e : k = d
 ·subst e; rw [hM_]; exact hx
 ·rw [ct_ (fun q => e (Option.some.inj q).symm)]; exact r.2.2 k hk
theorem fD_ {j f : Nat} (hf : (chI ops l)[j]? = some f) (k : Nat) : ((chI ops l).take (j + 1)).contains k = if k = f then true else ((chI ops l).take j).contains k := by
 obtain ⟨hj, e⟩ := List.getElem?_eq_some_iff.1 hf
 rw [take_succ_eq_append_getElem hj, e]
 by_cases q : k = f
 ·subst q; simp
 ·simp [q]
theorem rb_ {j f : Nat} (hf : (chI ops l)[j]? = some f) : ((chI ops l).take j).contains f = false := by
 cases q : ((chI ops l).take j).contains f with
 | false => rfl
 | true =>
  have hm : f ∈ (chI ops l).take j := by simpa using q
  obtain ⟨i, hi, e⟩ := mem_iff_getElem.1 hm
  have h1 : (chI ops l)[i]? = some f := by
   rw [getElem_take] at e
   rw [length_take] at hi
   rw [getElem?_eq_getElem (by omega), e]
  have := dV_ h1 hf
  rw [length_take] at hi
  omega
theorem hk_ {f : Nat} (h : c8_ l f = true) : ((∃ E z, (gat l f).op = .alloc E z) ∨ ∃ E sz z, (gat l f).op = .buildSlice E sz z 0 []) ∧ ∃ d, (gat l f).dst = some d := by
 unfold c8_ at h
 split at h
 ·rename_i E z d e1 e2; exact ⟨.inl ⟨E, z, e1⟩, d, e2⟩
 ·rename_i E sz z d e1 e2; exact ⟨.inr ⟨E, sz, z, e1⟩, d, e2⟩
 ·cases h
theorem h5_ {f : Nat} (h : c8_ l f = true) (h2 : f < l.length) : bG_ ops l f = true := by
 unfold bG_
 rcases (hk_ h).1 with ⟨E, z, e⟩ | ⟨E, sz, z, e⟩ <;> (rw [e]; rfl)
theorem iG_ {op : LOp} (hs : op.slot = true) (t : Nat → AV) (h h' : List Row) : ai_ t h op = ai_ t h' op := by
 cases op <;> first | (simp [LOp.slot] at hs; done) | rfl
theorem tT_ {P : Program} {T : Nat → AV} {h : List Row} {K : AV → List Row → Prop} {op : LOp} (hs : op.slot = true) : aZ_ P T h K op = match ai_ T h op with | some v => K v h | none => False := by
 cases op <;> first | (simp [LOp.slot] at hs; done) | rfl
theorem qD_ {op : LOp} (hs : op.slot = true) : op.calm = true := by
 cases op <;> first | (simp [LOp.slot] at hs; done) | rfl
theorem en_ {f : Nat} (h : eV_ ops l f = true) : (gat l f).op.slot = true ∧ ∃ d, (gat l f).dst = some d ∧ ∀ i, i < l.length → d ∈ (gat l i).reads → f < i ∧ bG_ ops l i = true := by
 unfold eV_ at h
 rw [Bool.and_eq_true] at h
 refine ⟨h.1, ?_⟩
 have h2 := h.2
 split at h2
 ·rename_i d hd
  refine ⟨d, hd, fun i hi hr => ?_⟩
  rw [all_eq_true] at h2
  have := h2 i (mem_range.2 hi)
  have hc : (gat l i).reads.contains d = true := by simpa using hr
  rw [hc] at this
  simpa using this
 ·cases h2
theorem hb_ {f : Nat} (h : eV_ ops l f = true) : c8_ l f = false := by
 cases z : c8_ l f with
 | false => rfl
 | true =>
  have := (en_ h).1
  rcases (hk_ z).1 with ⟨E, q, e⟩ | ⟨E, sz, q, e⟩ <;> (rw [e] at this; cases this)
theorem mB_ {j q c : Nat} (h : (chI ops l)[q]? = some c) : ((chI ops l).take j).contains c = decide (q < j) := by
 obtain ⟨h1, e1⟩ := List.getElem?_eq_some_iff.1 h
 by_cases z : q < j
 ·rw [decide_eq_true z]
  have : c ∈ (chI ops l).take j := mem_iff_getElem.2 ⟨q, by rw [length_take]; omega, by rw [getElem_take, e1]⟩
  simpa using this
 ·rw [decide_eq_false z]
  cases z1 : ((chI ops l).take j).contains c with
  | false => rfl
  | true =>
   have hm1 : c ∈ (chI ops l).take j := by simpa using z1
   obtain ⟨q', hq', e'⟩ := mem_iff_getElem.1 hm1
   rw [getElem_take] at e'
   rw [length_take] at hq'
   have h1 : (chI ops l)[q']? = some c := by rw [getElem?_eq_getElem (by omega), e']
   have := dV_ h1 h
   omega
theorem gE_ {T : Nat → AV} {h : List Row} {x : LI} {d : Nat} {v : AV} (hd : d ∉ x.reads) : ai_ (put T (some d) v) h x.op = ai_ T h x.op :=
 (d4_ _ (dC_ (fun s hs => (ct_ (fun e => hd (by rw [Option.some.inj e]; exact hs))).symm))).symm
theorem pj_ (g : hQ_ ops l) {L : Array Bool} {j : Nat} {T : Nat → AV} {h : List Row} {S : Sit} {a : Act} {w : World} {B : Nat → Nat} {f : Nat} (I : Inv P N ops l t0 S0 w0 K L j T h S a w B) (hcl : ∀ k, L.getD k false = true → fY_ ops L k)
 (hf : (chI ops l)[j]? = some f) (hfl : c8_ l f = true) (hL : L.getD f false = true) : ∃ T' h' S', Inv P N ops l t0 S0 w0 K L (j + 1) T' h' S' a w B := by
 obtain ⟨hfn, hfc⟩ := dS_ hf
 have hnt := rb_ hf
 have hw : a6_ ops l L j f = true := by simp only [a6_, hL, hfl, hnt]; rfl
 obtain ⟨E, c0, v0, d, hop, hd, ha, hb, ho, hi, hsz⟩ := I.pn.blk f hfn hw
 obtain ⟨av, row, info, hblk, hwp, had, hrp⟩ := pc_ (P := P) hop I.hm hb ho hi
 have hrun := I.G.run
 have hdrop : (chI ops l).drop j = f :: (chI ops l).drop (j + 1) := by
  obtain ⟨hql, e⟩ := List.getElem?_eq_some_iff.1 hf
  rw [drop_eq_getElem_cons hql, e]
 rw [hdrop, map_cons, f7_] at hrun
 have hrun := hwp _ _ hrun
 simp only [hd] at hrun
 obtain ⟨hloose, hrest⟩ := hrun
 have hA : ∀ k, aS_ ops l L (j + 1) k = if k = f then true else aS_ ops l L j k := by
  intro k
  unfold aS_
  rw [fD_ hf]
  by_cases e : k = f
  ·subst e; simp only [if_pos, hL, hfl]; rfl
  ·simp only [if_neg e]
 have hW : ∀ k, a6_ ops l L (j + 1) k = if k = f then false else a6_ ops l L j k := by
  intro k
  unfold a6_
  rw [fD_ hf]
  by_cases e : k = f
  ·subst e; simp
  ·simp only [if_neg e]
 have hown : ∀ b, ({ imm := S.imm, rows := S.rows ++ [info] } : Sit).owns b → S.owns b ∨ b = B f := by
  rintro b ⟨k, i, q1, q2⟩
  by_cases hk : k < S.rows.length
  ·have q1' : (S.rows ++ [info])[k]? = some i := q1
   rw [getElem?_append_left hk] at q1'
   exact .inl ⟨k, i, q1', q2⟩
  ·have q1' : (S.rows ++ [info])[k]? = some i := q1
   rw [getElem?_append_right (by omega)] at q1'
   have := mem_of_getElem? q1'
   simp only [mem_singleton] at this
   subst this
   rw [hblk, Option.some.injEq] at q2
   exact .inr q2.symm
 have hle := S.le_push info
 refine ⟨put T (some d) av, h ++ [row], { imm := S.imm, rows := S.rows ++ [info] }, ?_⟩
 refine ⟨⟨I.st.le.trans hle, I.st.os, I.st.tape, I.st.output, I.st.size, I.st.block, fun b q => ?_, I.st.immNew⟩, had, ?_, ⟨fun q c hc => ⟨fun hq hqs => ?_, fun h1 h2 => Nat.lt_succ_of_lt ((I.G.ch q c hc).2 h1 h2)⟩, fun p hp hpl => ?_, fun q p hq hqj hps hpl => ?_, fun q c d' hc hd' hjq => ?_, fun s hs => ?_, hrest⟩, ⟨fun k hk hkw => ?_, fun k k' hk hk' h1 h2 hne => ?_⟩⟩
 ·rcases hown b q with q | q
  ·exact I.st.ownNew b q
  ·exact .inr (by rw [q]; exact hsz)
 ·have e := jV_ (t0 := t0) g.one hfn hA hW T av
  rw [hd] at e
  rw [e]
  refine (I.hr.up hle).reput ?_
  rw [ha]
  exact hrp
 ·by_cases e : q = j
  ·subst e; rw [hf] at hc; cases hc; exact hL
  ·exact (I.G.ch q c hc).1 (by omega) hqs
 ·have hnr : ew_ ops l.length f p = false := by
   cases hz : ew_ ops l.length f p with
   | false => rfl
   | true => have := fo_ hcl _ f p (hcl f hL) hz; rw [hpl] at this; cases this
  exact g3_ hloose (mem_map.2 ⟨p, mem_filter.2 ⟨hp, by rw [hnr]; rfl⟩, rfl⟩)
 ·have hqj' : q < j := by
   by_cases z : q = j
   ·subst z; rw [hf] at hq; cases hq
    rw [hb_ hps] at hfl; cases hfl
   ·omega
  obtain ⟨d2, e1, e2⟩ := I.G.sl q p hq hqj' hps hpl
  have hpn := (dS_ hq).1
  refine ⟨d2, e1, ?_⟩
  have hnd : d ∉ (gat l p).reads := by
   intro hr
   rcases g.rd p f d hpn hfn hd hr with ⟨h1, h2⟩ | ⟨_, _, hed⟩
   ·have := g.edg j q f p hf hq (by omega); rw [h2] at this; cases this
   ·obtain ⟨o, e, q1, q2, q3, q4⟩ := cj_ hed
    have := hcl f hL o e q1 q2 q3
    rw [q4, hpl] at this; cases this
  rw [gE_ hnd, iG_ (en_ hps).1 T _ h, e2, ct_ (fun z => by
   have := g.one p f d2 hpn hfn e1 (by rw [hd]; exact z)
   subst this
   rw [hb_ hps] at hfl; cases hfl)]
 ·have hne : c ≠ f := by rintro rfl; have := dV_ hc hf; omega
  rw [ct_ (fun z => hne (g.one c f d' (dS_ hc).1 hfn hd' (by rw [hd]; exact z)))]
  exact I.G.old q c d' hc hd' (by omega)
 ·rw [ct_ (by rw [← hd]; exact hs f hfn)]
  exact I.G.oth s hs
 ·rw [hW] at hkw
  split at hkw
  ·cases hkw
  ·rename_i hne
   obtain ⟨E', c', v', d', q1, q2, q3, q4, q5, q6, q7⟩ := I.pn.blk k hk hkw
   refine ⟨E', c', v', d', q1, q2, q3, q4, fun q => ?_, q6, q7⟩
   rcases hown _ q with q | q
   ·exact q5 q
   ·exact I.pn.ne k f hk hfn hkw hw hne q
 ·rw [hW] at h1 h2
  split at h1
  ·cases h1
  ·split at h2
   ·cases h2
   ·exact I.pn.ne k k' hk hk' h1 h2 hne
theorem ng_ (g : hQ_ ops l) {L : Array Bool} {j : Nat} {T : Nat → AV} {h : List Row} {S : Sit} {a : Act} {w : World} {B : Nat → Nat} {f : Nat} (I : Inv P N ops l t0 S0 w0 K L j T h S a w B)
 (hf : (chI ops l)[j]? = some f) (hfs : eV_ ops l f = true) : ∃ T' h' S', Inv P N ops l t0 S0 w0 K L (j + 1) T' h' S' a w B := by
 obtain ⟨hfn, hfc⟩ := dS_ hf
 have hfl := hb_ hfs
 obtain ⟨hslot, d, hd, hrd⟩ := en_ hfs
 have hLf : L.getD f false = false := by
  cases z : L.getD f false with
  | false => rfl
  | true => have := (I.G.ch j f hf).2 hfl z; omega
 have hrun := I.G.run
 have hdrop : (chI ops l).drop j = f :: (chI ops l).drop (j + 1) := by
  obtain ⟨hql, e⟩ := List.getElem?_eq_some_iff.1 hf
  rw [drop_eq_getElem_cons hql, e]
 rw [hdrop, map_cons, f7_] at hrun
 rw [tT_ hslot] at hrun
 obtain ⟨v, hv⟩ : ∃ v, ai_ T h (gat l f).op = some v := by
  cases z : ai_ T h (gat l f).op with
  | some v => exact ⟨v, rfl⟩
  | none => rw [z] at hrun; exact hrun.elim
 rw [hv] at hrun
 have hcont : holds (put T (gat l f).dst v) h ((kS_ ops l f).map (gat l)) ∧ f7_ P (((chI ops l).drop (j + 1)).map fun c => (gat l c, (kS_ ops l c).map (gat l))) (put T (gat l f).dst v) h K := hrun
 rw [hd] at hcont
 have hself : d ∉ (gat l f).reads := fun hr => by have := (hrd f hfn hr).1; omega
 have hW : ∀ k, a6_ ops l L (j + 1) k = a6_ ops l L j k := by
  intro k
  unfold a6_
  rw [fD_ hf]
  by_cases e : k = f
  ·subst e; simp [hLf]
  ·simp only [if_neg e]
 have hA : ∀ k, aS_ ops l L (j + 1) k = aS_ ops l L j k := by
  intro k
  unfold aS_
  rw [fD_ hf]
  by_cases e : k = f
  ·subst e; simp [hLf]
  ·simp only [if_neg e]
 refine ⟨put T (some d) v, h, S, I.st, I.hm, ?_, ⟨fun q c hc => ⟨fun hq hqs => ?_, fun h1 h2 => Nat.lt_succ_of_lt ((I.G.ch q c hc).2 h1 h2)⟩, fun p hp hpl => ?_, fun q p hq hqj hps hpl => ?_, fun q c d' hc hd' hjq => ?_, fun s hs => ?_, hcont.2⟩, ⟨fun k hk hkw => I.pn.blk k hk (by rw [← hW]; exact hkw), fun k k' hk hk' h1 h2 hne => I.pn.ne k k' hk hk' (by rw [← hW]; exact h1) (by rw [← hW]; exact h2) hne⟩⟩
 ·have e : dM_ l t0 (put T (some d) v) (aS_ ops l L (j + 1)) (a6_ ops l L (j + 1)) = dM_ l t0 T (aS_ ops l L j) (a6_ ops l L j) := by
   rw [show aS_ ops l L (j + 1) = aS_ ops l L j from funext hA, show a6_ ops l L (j + 1) = a6_ ops l L j from funext hW]
   funext s
   unfold dM_
   split
   ·rfl
   ·split
    ·rename_i _ h2
     obtain ⟨k, h3, h4, h5⟩ := fK_.1 h2
     rw [ct_]
     intro z
     have := g.one k f s h3 hfn h5 (by rw [hd]; exact z)
     subst this
     unfold aS_ at h4
     rw [hLf] at h4; cases h4
    ·rfl
  rw [e]; exact I.hr
 ·by_cases e : q = j
  ·subst e; rw [hf] at hc; cases hc; rw [hfs] at hqs; cases hqs
  ·exact (I.G.ch q c hc).1 (by omega) hqs
 ·obtain ⟨d2, e1, e2⟩ := I.G.pre p hp hpl
  have hpm := mem_filter.1 hp
  have hpn : p < l.length := mem_range.1 hpm.1
  have hpc : bG_ ops l p = false := by simpa using hpm.2
  refine ⟨d2, e1, ?_⟩
  rw [gE_ (fun hr => by have := (hrd p hpn hr).2; rw [hpc] at this; cases this), e2, ct_ (fun z => by
   have := g.one p f d2 hpn hfn e1 (by rw [hd]; exact z)
   subst this
   rw [hfc] at hpc; cases hpc)]
 ·by_cases e : q = j
  ·subst e; rw [hf] at hq; cases hq
   refine ⟨d, hd, ?_⟩
   rw [gE_ hself, hv, hM_]
  ·obtain ⟨d2, e1, e2⟩ := I.G.sl q p hq (by omega) hps hpl
   have hpn := (dS_ hq).1
   refine ⟨d2, e1, ?_⟩
   rw [gE_ (fun hr => by
    have h3 := (hrd p hpn hr).1
    rcases g.rd p f d hpn hfn hd hr with ⟨_, h2⟩ | ⟨h1, _⟩
    ·have := g.edg j q f p hf hq (by omega); rw [h2] at this; cases this
    ·omega), e2, ct_ (fun z => by
    have := g.one p f d2 hpn hfn e1 (by rw [hd]; exact z)
    subst this
    exact e (dV_ hq hf))]
 ·have hne : c ≠ f := by rintro rfl; have := dV_ hc hf; omega
  rw [ct_ (fun z => hne (g.one c f d' (dS_ hc).1 hfn hd' (by rw [hd]; exact z)))]
  exact I.G.old q c d' hc hd' (by omega)
 ·rw [ct_ (by rw [← hd]; exact hs f hfn)]
  exact I.G.oth s hs
theorem g7_ (g : hQ_ ops l) {L : Array Bool} {S' : Sit} {a : Act} {w : World} {B : Nat → Nat} (hcl : ∀ k, L.getD k false = true → fY_ ops L k) :
 ∀ (n j : Nat) (T : Nat → AV) (h : List Row) (S : Sit), Inv P N ops l t0 S0 w0 K L j T h S a w B → (∀ q, j ≤ q → q < j + n → ∃ f, (chI ops l)[q]? = some f ∧ ((c8_ l f = true ∧ L.getD f false = true) ∨ eV_ ops l f = true)) → ∃ T' h' S', Inv P N ops l t0 S0 w0 K L (j + n) T' h' S' a w B
 | 0, j, T, h, S, I, _ => ⟨T, h, S, I⟩
 | n + 1, j, T, h, S, I, hall => by
  obtain ⟨f, hf, hk⟩ := hall j (Nat.le_refl _) (by omega)
  obtain ⟨T1, h1, S1, I1⟩ : ∃ T1 h1 S1, Inv P N ops l t0 S0 w0 K L (j + 1) T1 h1 S1 a w B := by
   rcases hk with ⟨hfl, hL⟩ | hfs
   ·exact pj_ g I hcl hf hfl hL
   ·exact ng_ g I hf hfs
  obtain ⟨T2, h2, S2, I2⟩ := g7_ g (S' := S') hcl n (j + 1) T1 h1 S1 I1 (fun q q1 q2 => hall q (by omega) (by omega))
  exact ⟨T2, h2, S2, by rw [show j + (n + 1) = j + 1 + n by omega]; exact I2⟩
theorem sk_ (hgl : cY_ P S0) (hl : ops.toList.mapM (bP_ P N ops) = some l) (g : hQ_ ops l)
 (hQ : ∀ S T h a w, a8_ S0 w0 S w → ae_ S h w → Rel S N T a → K T h → Q .normal a w) :
 ∀ (fuel : Nat) (L : Array Bool) (j : Nat) (T : Nat → AV) (h : List Row) (S : Sit) (a : Act) (w : World) (B : Nat → Nat), L.toList.countP (fun b => !b) ≤ fuel → L.size = ops.size →
  (∀ k, L.getD k false = true → fY_ ops L k) → Inv P N ops l t0 S0 w0 K L j T h S a w B → wpAny P .any ops Q fuel L a w := by
 have fin : ∀ (L : Array Bool) (j : Nat) (T : Nat → AV) (h : List Row) (S : Sit) (a : Act) (w : World) (B : Nat → Nat), L.size = ops.size → (∀ k, L.getD k false = true → fY_ ops L k) → Region.ready .any ops L = [] → Inv P N ops l t0 S0 w0 K L j T h S a w B → Q .normal a w := by
  intro L j T h S a w B hs hcl hn I
  have hall := pb_ g hs hn
  obtain ⟨T', h', S', I'⟩ := g7_ g (S' := S) hcl ((chI ops l).length - j) j T h S I (fun q q1 q2 => by
   have hq : q < (chI ops l).length := by omega
   have hc := getElem?_eq_getElem hq
   refine ⟨_, hc, .inl ⟨?_, hall _ (by rw [← g.len]; exact (dS_ hc).1)⟩⟩
   cases z : c8_ l (chI ops l)[q] with
   | true => rfl
   | false => have := (I.G.ch q _ hc).2 z (hall _ (by rw [← g.len]; exact (dS_ hc).1)); omega)
  have hj : (chI ops l).length ≤ j + ((chI ops l).length - j) := by omega
  have htk : (chI ops l).take (j + ((chI ops l).length - j)) = chI ops l := take_of_length_le hj
  have hfloat : ∀ k, k < l.length → c8_ l k = true → k ∈ chI ops l := by
   intro k hk hfl
   exact kW_.2 ⟨hk, h5_ hfl hk⟩
  have hnow : ∀ k, k < l.length → a6_ ops l L (j + ((chI ops l).length - j)) k = false := by
   intro k hk
   unfold a6_
   cases hfl : c8_ l k with
   | false => simp
   | true =>
    have : ((chI ops l).take (j + ((chI ops l).length - j))).contains k = true := by rw [htk]; simpa using hfloat k hk hfl
    rw [this]; simp
  have hrec : ∀ k, k < l.length → aS_ ops l L (j + ((chI ops l).length - j)) k = true := by
   intro k hk
   have h1 := hall k (by rw [← g.len]; exact hk)
   have h2 := hnow k hk
   unfold a6_ at h2
   unfold aS_
   rw [h1, Bool.true_and] at h2 ⊢
   rw [h2]; rfl
  have e : dM_ l t0 T' (aS_ ops l L (j + ((chI ops l).length - j))) (a6_ ops l L (j + ((chI ops l).length - j))) = T' := by
   funext s
   have hw : ∀ k, k < l.length → a6_ ops l L (j + ((chI ops l).length - j)) k = true → (gat l k).dst ≠ some s := fun k hk hkw => by rw [hnow k hk] at hkw; cases hkw
   by_cases q : ∃ k, k < l.length ∧ (gat l k).dst = some s
   ·obtain ⟨k, hk, hd⟩ := q
    exact eX_ hk (hrec k hk) hd hw
   ·rw [e9_ (fun k hk _ hd => q ⟨k, hk, hd⟩) hw, I'.G.oth s (fun c hc hd => q ⟨c, hc, hd⟩)]
  have hr := I'.hr
  rw [e] at hr
  have hrun := I'.G.run
  rw [drop_eq_nil_of_le hj] at hrun
  exact hQ S' T' h' a w I'.st I'.hm hr hrun
 intro fuel
 induction fuel with
 | zero =>
  intro L j T h S a w B hc hs hcl I
  have hno : Region.ready .any ops L = [] := by
   rcases eq_nil_or_concat (Region.ready .any ops L) with q | ⟨ys, y, q⟩
   ·exact q
   ·exfalso
    have hy : y ∈ Region.ready .any ops L := by rw [q]; simp
    obtain ⟨h1, h2, _⟩ := e5_ hy
    have : L.toList.countP (fun b => !b) = 0 := by omega
    rw [countP_eq_zero] at this
    have hmem : L.getD y true ∈ L.toList := by
     rw [Array.getD_eq_getD_getElem?, Array.getElem?_eq_getElem (by omega)]
     simp
    have := this _ hmem
    rw [h2] at this
    simp at this
  exact ⟨hno, fin L j T h S a w B hs hcl hno I⟩
 | succ fuel ih =>
  intro L j T h S a w B hc hs hcl I
  refine ⟨fun hno => fin L j T h S a w B hs hcl hno I, fun i hi => ?_⟩
  obtain ⟨i1, i2, i3⟩ := e5_ hi
  have ho : ops[i]? = some ops[i] := Array.getElem?_eq_getElem i1
  obtain ⟨x, hx, hlow⟩ := h2_ hl i ops[i] (by simp)
  have hil : i < l.length := by rw [g.len]; exact i1
  have hxg : gat l i = x := by have := tt_ (l := l) hil; rw [hx] at this; exact (Option.some.inj this).symm
  obtain ⟨low1, low2, ej_, jZ_, _⟩ := dT_ hlow
  have hi2 : L.getD i false = false := by
   rw [Array.getD_eq_getD_getElem?, Array.getElem?_eq_getElem (by omega)] at i2 ⊢
   simpa using i2
  have hshut : fY_ ops L i := fun o e h1 h2 h3 => i3 o e h1 h2 h3
  have hcl' : ∀ k, (L.setIfInBounds i true).getD k false = true → fY_ ops (L.setIfInBounds i true) k := by
   intro k hk o e ho' he hb
   rw [di_ (by omega)] at hk ⊢
   split at hk
   ·rename_i eki
    subst eki
    have := i3 o e ho' he hb
    split
    ·rfl
    ·exact this
   ·have := hcl k hk o e ho' he hb
    split
    ·rfl
    ·exact this
  have hcnt : (L.setIfInBounds i true).toList.countP (fun b => !b) ≤ fuel := by
   have hlt : i < L.toList.length := by simp; omega
   have hv : L.toList[i] = false := by
    rw [Array.getD_eq_getD_getElem?, Array.getElem?_eq_getElem (by omega)] at hi2
    simpa using hi2
   rw [Array.toList_setIfInBounds, countP_set hlt, hv]
   simp only [Bool.not_false, Bool.not_true, if_true, Bool.false_eq_true, if_false]
   omega
  have hset : ∀ k, (L.setIfInBounds i true).getD k false = if k = i then true else L.getD k false := fun k => di_ (by omega)
  have hgd : x.guard = Option.none := by rw [← hxg]; exact g.grd i hil
  have hreadsOf : ∀ (j : Nat) (T : Nat → AV) (h : List Row) (S : Sit), Inv P N ops l t0 S0 w0 K L j T h S a w B → (∀ k, k < i → bN_ ops i k = true → a6_ ops l L j k = false) → ∀ s ∈ x.reads, T s = dM_ l t0 T (aS_ ops l L j) (a6_ ops l L j) s := by
   intro j T h S I hnw s hsr
   by_cases q : ∃ k, k < l.length ∧ (gat l k).dst = some s
   ·obtain ⟨k, hk, hd⟩ := q
    rcases g.rd i k s hil hk hd (by rw [hxg]; exact hsr) with ⟨hki, hed⟩ | ⟨hik, hch, hed⟩
    ·obtain ⟨o, e, q1, q2, q3, q4⟩ := cj_ hed
     have hLk := i3 o e q1 q2 q3
     rw [q4] at hLk
     have hwk := hnw k hki hed
     have hrk : aS_ ops l L j k = true := by
      unfold a6_ at hwk
      unfold aS_
      rw [hLk, Bool.true_and] at hwk ⊢
      rw [hwk]; rfl
     rw [eX_ hk hrk hd (fun k' hk' hw' hd' => by
      have := g.one k k' s hk hk' hd hd'
      subst this
      rw [hwk] at hw'; cases hw')]
    ·have hkn : L.getD k false = false := by
      cases hq : L.getD k false with
      | false => rfl
      | true =>
       obtain ⟨o, e, q1, q2, q3, q4⟩ := cj_ hed
       have := hcl k hq o e q1 q2 q3
       rw [q4, hi2] at this; cases this
     have hrk : aS_ ops l L j k = false := by unfold aS_; rw [hkn]; rfl
     have hwk : a6_ ops l L j k = false := by unfold a6_; rw [hkn]; rfl
     obtain ⟨qk, hqk⟩ := nq_ (ops := ops) hk hch
     have hjq : j ≤ qk := by
      by_cases z : qk < j
      ·exfalso
       cases zs : eV_ ops l k with
       | false => have := (I.G.ch qk k hqk).1 z zs; rw [hkn] at this; cases this
       | true =>
        obtain ⟨_, d', hd', hrd'⟩ := en_ zs
        rw [hd] at hd'; cases hd'
        have := (hrd' i hil (by rw [hxg]; exact hsr)).1
        omega
      ·omega
     rw [I.G.old qk k s hqk hd hjq, e9_]
     ·intro k' hk' hl' hd'
      have := g.one k k' s hk hk' hd hd'
      subst this
      rw [hrk] at hl'; cases hl'
     ·intro k' hk' hl' hd'
      have := g.one k k' s hk hk' hd hd'
      subst this
      rw [hwk] at hl'; cases hl'
   ·rw [I.G.oth s (fun c hc hd => q ⟨c, hc, hd⟩), e9_ (fun k hk _ hd => q ⟨k, hk, hd⟩) (fun k hk _ hd => q ⟨k, hk, hd⟩)]
  have hpnOf : ∀ {j j' : Nat} {T : Nat → AV} {h : List Row} {S S' : Sit} {w' : World} {v : Value}, Inv P N ops l t0 S0 w0 K L j T h S a w B → c8_ l i = false → (∀ k, a6_ ops l (L.setIfInBounds i true) j' k = true → a6_ ops l L j k = true) → a8_ S w S' w' →
   Pn ops l w0 (L.setIfInBounds i true) j' S' (a.put (ops[i]).dst v) w' B := by
   intro j j' T h S S' w' v I hni hsub st'
   refine ⟨fun k hk hkw => ?_, fun k k' hk hk' h1 h2 hne => I.pn.ne k k' hk hk' (hsub k h1) (hsub k' h2) hne⟩
   obtain ⟨E', c', v', d', q1, q2, q3, q4, q5, q6, q7⟩ := I.pn.blk k hk (hsub k hkw)
   have hlt : B k < w.heap.size := (Array.getElem?_eq_some_iff.1 q4).1
   refine ⟨E', c', v', d', q1, q2, ?_, by rw [st'.block _ hlt q5]; exact q4, fun q => ?_, ?_, q7⟩
   ·have hki : k ≠ i := by
     rintro rfl
     have := hsub k hkw
     unfold a6_ at this
     rw [hi2] at this; cases this
    have hdne : (ops[i]).dst ≠ some d' := fun z => hki (g.one k i d' hk hil q2 (by rw [hxg, ← ej_]; exact z))
    rw [← q3]
    cases hdd : (ops[i]).dst with
    | none => rfl
    | some e =>
     rw [hdd] at hdne
     have hne : e ≠ d' := fun z => hdne (by rw [z])
     simp only [Act.put, Array.getD_eq_getD_getElem?, Array.getElem?_setIfInBounds, if_neg hne]
   ·rcases st'.ownNew _ q with q | q
    ·exact q5 q
    ·omega
   ·cases z : S'.imm (B k) with
    | none => rfl
    | some c =>
     rcases st'.immNew _ c z with q | q | q
     ·rw [q6] at q; cases q
     ·exact absurd q q5
     ·omega
  simp only [wpOp, ho]
  have hwant : ∀ {S : Sit} {t : Nat → AV}, Rel S N t a → Region.wanted ops[i] (yielded ops a.tmps) = true := fun hr => ei_ hlow hr (q := true) (by rw [hgd]; rfl)
  rw [hwant I.hr]
  simp only [if_true]
  left
  have hni_edge : c8_ l i = false → ∀ (j : Nat) (T : Nat → AV) (h : List Row) (S : Sit), Inv P N ops l t0 S0 w0 K L j T h S a w B → (∃ d, x.dst = some d ∧ ai_ T h x.op = some (T d)) → x.op.calm = true →
   (∀ k, k < i → bN_ ops i k = true → a6_ ops l L j k = false) → (∀ q, (chI ops l)[q]? = some i → q < j) → (ops[i]).wp P a w (fun a' w' => wpAny P .any ops Q fuel (L.setIfInBounds i true) a' w') Q := by
   intro hni j T h S I hval hcalm hnw hpos
   have hreads := hreadsOf j T h S I hnw
   obtain ⟨d, hd, hev⟩ := hval
   have hev' : ai_ (dM_ l t0 T (aS_ ops l L j) (a6_ ops l L j)) h x.op = some (T d) := by rw [← hev]; exact (d4_ _ (dC_ hreads)).symm
   have hW : ∀ k, a6_ ops l (L.setIfInBounds i true) j k = if k = i then false else a6_ ops l L j k := by
    intro k
    unfold a6_
    rw [hset]
    by_cases e : k = i
    ·subst e; simp only [if_pos, hni]; simp
    ·simp only [if_neg e]
   have hA : ∀ k, aS_ ops l (L.setIfInBounds i true) j k = if k = i then true else aS_ ops l L j k := by
    intro k
    unfold aS_
    rw [hset]
    by_cases e : k = i
    ·subst e; simp only [if_pos, hni]; simp
    ·simp only [if_neg e]
   refine h4_ (Q := Q) (K := fun v h' => v = T d ∧ h' = h) low1 low2 I.hm (hgl.up I.st.le) I.hr (qm_ hcalm hev' ⟨rfl, rfl⟩) ?_
   rintro v av S' h' w' st' hm' rv ⟨rfl, rfl⟩
   refine ih _ j T h' S' _ w' B hcnt (by simp [hs]) hcl' ⟨I.st.trans st', hm', ?_, ⟨fun q' c hc' => ⟨fun hq' hqs => ?_, fun h1 h2 => ?_⟩, fun p hp hpl => ?_, fun q' p hq' hqj' hps hpl => ?_, I.G.old, I.G.oth, I.G.run⟩,
    hpnOf I hni (fun k hk => by rw [hW] at hk; split at hk; cases hk; exact hk) st'⟩
   ·have e := jV_ (t0 := t0) g.one hil hA hW T (T d)
    rw [hxg, hd, r2_] at e
    rw [e, ← hd, ej_]
    rw [hd]
    exact (I.hr.up st'.le).put rv
   ·rw [hset]
    split
    ·rfl
    ·exact (I.G.ch q' c hc').1 hq' hqs
   ·rw [hset] at h2
    split at h2
    ·rename_i e; subst e; exact hpos q' hc'
    ·exact (I.G.ch q' c hc').2 h1 h2
   ·rw [hset] at hpl
    split at hpl
    ·cases hpl
    ·exact I.G.pre p hp hpl
   ·rw [hset] at hpl
    split at hpl
    ·cases hpl
    ·exact I.G.sl q' p hq' hqj' hps hpl
  by_cases hch : bG_ ops l i = true
  ·obtain ⟨q, hq⟩ := nq_ (ops := ops) hil hch
   cases hfl : c8_ l i with
   | true =>
    have hqj : j ≤ q := by
     by_cases z : q < j
     ·have hsl : eV_ ops l i = false := by
       cases zs : eV_ ops l i with
       | false => rfl
       | true => rw [hb_ zs] at hfl; cases hfl
      have := (I.G.ch q i hq).1 z hsl; rw [hi2] at this; cases this
     ·omega
    obtain ⟨hops, d, hd⟩ := hk_ hfl
    rw [hxg] at hops hd
    have hex : ∃ (E : TypeId) (c : Array Value) (v : Value), FlV x.op E c v w.heap.size ∧ (execOp a.eval ops[i]).run P w = .ok (.value v) (w.alloc (.cells c E)) := by
     rcases hops with ⟨E, z, hop⟩ | ⟨E, sz, z, hop⟩
     ·rw [hop] at low1
      have hal : ∃ (E' : TypeId) (ti : TypeInfo), (ops[i]).op = .alloc E' ∧ P.info? E' = some ti ∧ ti.zero = some z ∧ E' = E := by
       cases ho1 : (ops[i]).op <;> rw [ho1] at low1 <;> first
        | (simp only [av_, Option.bind_eq_some_iff, Option.map_eq_some_iff] at low1
           obtain ⟨ti, h1, z', h2, e⟩ := low1
           simp only [LOp.alloc.injEq] at e
           obtain ⟨e1, e2⟩ := e
           subst e1 e2
           exact ⟨_, ti, rfl, h1, h2, rfl⟩)
        | (exfalso; simp only [av_, cP_] at low1; first | (simp at low1; done) | ((repeat' split at low1) <;> first | (simp at low1; done) | (simp [Option.bind_eq_some_iff, Option.map_eq_some_iff] at low1; done) | contradiction | (simp_all; done)))
      obtain ⟨E', ti, ho1, ho2, ho3, rfl⟩ := hal
      exact ⟨E', z.cells, _, .inl ⟨z, hop, rfl, rfl⟩, by simp [execOp, ho1, Instr.alloc, zeroValue, dJ_ ho2, ho3, newVar, newRow]⟩
     ·rw [hop] at low1
      have hal : ∃ (ty : TypeId) (parts : Array (Nat × Operand)) (ti : TypeInfo), (ops[i]).op = .buildSlice ty 0 parts ∧ parts.toList = [] ∧ P.underlying ty = some (.slice E) ∧ P.info? E = some ti ∧ ti.zero = some z ∧ ti.size = z.cells.size ∧ 0 < ti.size := by
       cases ho1 : (ops[i]).op <;> rw [ho1] at low1 <;> first
        | (simp only [av_] at low1
           split at low1
           ·rename_i e1 hu
            simp only [Option.bind_eq_some_iff] at low1
            obtain ⟨ti, h1, z', h2, e⟩ := low1
            split at e
            ·rename_i hc
             simp only [Option.some.injEq, LOp.buildSlice.injEq] at e
             obtain ⟨e1, e2, e3, e4, e5⟩ := e
             subst e1 e3 e4
             exact ⟨_, _, ti, rfl, e5, hu, h1, h2, hc.1, hc.2.1⟩
            ·cases e
           ·cases low1)
        | (exfalso; simp only [av_, cP_] at low1; first | (simp at low1; done) | ((repeat' split at low1) <;> first | (simp at low1; done) | (simp [Option.bind_eq_some_iff, Option.map_eq_some_iff] at low1; done) | contradiction | (simp_all; done)))
      obtain ⟨ty, parts, ti, ho1, hp0, hu, ho2, ho3, hzs, hpos⟩ := hal
      obtain ⟨c', h1, _, h3, _⟩ := fH_ (es := []) (a := a) ho1 hu ho2 ho3 hzs hpos (by simp) I.hm I.hr (fun p hp => by rw [hp0] at hp; simp at hp) (by rw [hp0]; rfl) (by rw [hp0]; rfl) (by simp)
      have h4 : c' = #[] := by apply Array.eq_empty_of_size_eq_zero; simpa using h3
      subst h4
      exact ⟨E, #[], _, .inr ⟨sz, z, hop, rfl, rfl⟩, h1⟩
    obtain ⟨E', c0, v0, hFl, hrun⟩ := hex
    refine aW_ hrun ?_
    have hold : ∀ b, b < w.heap.size → (w.alloc (.cells c0 E')).heap[b]? = w.heap[b]? := fun b hb => heap_alloc_old w _ b hb
    have hst : a8_ S w S (w.alloc (.cells c0 E')) := ⟨.refl S, rfl, rfl, rfl, by simp, fun b hb _ => hold b hb, fun _ q => .inl q, fun _ _ q => .inl q⟩
    have hm' : ae_ S h (w.alloc (.cells c0 E')) := by
     refine ⟨fun b c hb => by rw [hold b (I.hm.immLt hb)]; exact I.hm.imm b c hb, I.hm.len, fun k r rw' q1 q2 => ?_, I.hm.one⟩
     obtain ⟨k1, k2, k3, k4⟩ := I.hm.rows k r rw' q1 q2
     refine ⟨k1, k2, k3, ?_⟩
     cases hb' : r.blk with
     | none => rw [hb'] at k4; exact k4
     | some b => rw [hb'] at k4; exact ⟨k4.1, k4.2.le (.refl S) (hold b (I.hm.ownLt ⟨k, r, q1, hb'⟩))⟩
    have hnt : ((chI ops l).take j).contains i = false := by rw [mB_ hq]; exact decide_eq_false (by omega)
    have hW : ∀ k, a6_ ops l (L.setIfInBounds i true) j k = if k = i then true else a6_ ops l L j k := by
     intro k
     unfold a6_
     rw [hset]
     by_cases e : k = i
     ·subst e; simp only [if_pos, hfl, hnt]; rfl
     ·simp only [if_neg e]
    have hA : ∀ k, aS_ ops l (L.setIfInBounds i true) j k = aS_ ops l L j k := by
     intro k
     unfold aS_
     rw [hset]
     by_cases e : k = i
     ·subst e; simp only [if_pos, hfl, hnt, hi2]; rfl
     ·simp only [if_neg e]
    have hAi : aS_ ops l L j i = false := by unfold aS_; rw [hi2]; rfl
    have hd' : (ops[i]).dst = some d := by rw [ej_]; exact hd
    refine ih _ j T h S _ _ (fun k => if k = i then w.heap.size else B k) hcnt (by simp [hs]) hcl' ⟨I.st.trans hst, hm', ?_, ⟨fun q' c hc' => ⟨fun hq' hqs => ?_, fun h1 h2 => ?_⟩, fun p hp hpl => ?_, fun q' p hq' hqj' hps hpl => ?_, I.G.old, I.G.oth, I.G.run⟩, ⟨fun k hk hkw => ?_, fun k k' hk hk' h1 h2 hne => ?_⟩⟩
    ·have e : dM_ l t0 T (aS_ ops l (L.setIfInBounds i true) j) (a6_ ops l (L.setIfInBounds i true) j) = put (dM_ l t0 T (aS_ ops l L j) (a6_ ops l L j)) (gat l i).dst .undef := by
      rw [show aS_ ops l (L.setIfInBounds i true) j = aS_ ops l L j from funext hA]
      exact oU_ hil (fun k _ hk => by rintro rfl; rw [hAi] at hk; cases hk) g.one hW T
     rw [e, hxg, ← ej_]
     exact I.hr.put (by simp [Rep])
    ·rw [hset]
     split
     ·rfl
     ·exact (I.G.ch q' c hc').1 hq' hqs
    ·rw [hset] at h2
     split at h2
     ·rename_i e; subst e; rw [hfl] at h1; cases h1
     ·exact (I.G.ch q' c hc').2 h1 h2
    ·rw [hset] at hpl
     split at hpl
     ·cases hpl
     ·exact I.G.pre p hp hpl
    ·rw [hset] at hpl
     split at hpl
     ·cases hpl
     ·exact I.G.sl q' p hq' hqj' hps hpl
    ·rw [hW] at hkw
     by_cases e : k = i
     ·subst e
      refine ⟨E', c0, v0, d, by rw [hxg]; simp only [if_pos]; exact hFl, by rw [hxg]; exact hd, ?_, by simp only [if_pos]; exact heap_alloc_new w _, ?_, ?_, ?_⟩
      ·have hdN : d < a.tmps.size := by
        rw [I.hr.1]
        exact jZ_ d hd
       rw [hd']
       simp only [Act.put, Array.getD_eq_getD_getElem?, Array.getElem?_setIfInBounds, if_pos, hdN, if_true, Option.getD_some]
      ·simp only [if_pos]
       intro q
       have := I.hm.ownLt q
       omega
      ·simp only [if_pos]
       cases z1 : S.imm w.heap.size with
       | none => rfl
       | some c => have := I.hm.immLt z1; omega
      ·simp only [if_pos]; exact I.st.size
     ·rw [if_neg e] at hkw
      obtain ⟨E2, c2, v2, d2, q1, q2, q3, q4, q5, q6, q7⟩ := I.pn.blk k hk hkw
      have hlt : B k < w.heap.size := (Array.getElem?_eq_some_iff.1 q4).1
      simp only [if_neg e]
      refine ⟨E2, c2, v2, d2, q1, q2, ?_, by rw [hold _ hlt]; exact q4, q5, q6, q7⟩
      have hdne : d ≠ d2 := fun z => e (g.one k i d2 hk hil q2 (by rw [hxg, hd, z]))
      rw [← q3, hd']
      simp only [Act.put, Array.getD_eq_getD_getElem?, Array.getElem?_setIfInBounds, if_neg hdne]
    ·rw [hW] at h1 h2
     by_cases e : k = i
     ·subst e
      rw [if_neg (fun z => hne z.symm)] at h2
      simp only [if_pos, if_neg (fun z : k' = k => hne z.symm)]
      obtain ⟨_, _, _, _, _, _, _, q4, _⟩ := I.pn.blk k' hk' h2
      have := (Array.getElem?_eq_some_iff.1 q4).1
      omega
     ·rw [if_neg e] at h1
      by_cases e' : k' = i
      ·subst e'
       simp only [if_pos, if_neg e]
       obtain ⟨_, _, _, _, _, _, _, q4, _⟩ := I.pn.blk k hk h1
       have := (Array.getElem?_eq_some_iff.1 q4).1
       omega
      ·rw [if_neg e'] at h2
       simp only [if_neg e, if_neg e']
       exact I.pn.ne k k' hk hk' h1 h2 hne
   | false =>
    have hbelow : ∀ q', j ≤ q' → q' < j + (q - j) → ∃ f, (chI ops l)[q']? = some f ∧ ((c8_ l f = true ∧ L.getD f false = true) ∨ eV_ ops l f = true) := by
     intro q' h1 h2
     have hql := (List.getElem?_eq_some_iff.1 hq).1
     have hq'l : q' < (chI ops l).length := by omega
     have hc := getElem?_eq_getElem hq'l
     refine ⟨_, hc, ?_⟩
     cases zs : eV_ ops l (chI ops l)[q'] with
     | true => exact .inr rfl
     | false =>
      have hr2 := g.chn q q' i _ hq hc (by omega) hfl zs
      have hL := fo_ hcl _ i _ hshut hr2
      refine .inl ⟨?_, hL⟩
      cases z : c8_ l (chI ops l)[q'] with
      | true => rfl
      | false => have := (I.G.ch q' _ hc).2 z hL; omega
    have hnwAt : ∀ j', q ≤ j' → ∀ k, k < i → bN_ ops i k = true → a6_ ops l L j' k = false := by
     intro j' hj' k hki hed7
     cases hw : a6_ ops l L j' k with
     | false => rfl
     | true =>
      exfalso
      unfold a6_ at hw
      simp only [Bool.and_eq_true, Bool.not_eq_true'] at hw
      obtain ⟨⟨_, h2⟩, h3⟩ := hw
      have hkl : k < l.length := by omega
      have hkc : bG_ ops l k = true := by
       exact h5_ h2 hkl
      obtain ⟨q', hq'⟩ := nq_ (ops := ops) hkl hkc
      have hlt : q' < q := by
       by_cases z : q' < q
       ·exact z
       ·exfalso
        by_cases z' : q' = q
        ·subst z'; rw [hq] at hq'; have := Option.some.inj hq'; omega
        ·have := g.edg q' q k i hq' hq (by omega); rw [hed7] at this; cases this
      rw [mB_ hq', decide_eq_true (by omega)] at h3
      cases h3
    cases hsl : eV_ ops l i with
    | true =>
     have hcalm : x.op.calm = true := by rw [← hxg]; exact qD_ (en_ hsl).1
     by_cases hqj : q < j
     ·refine hni_edge hfl j T h S I ?_ hcalm (hnwAt j (by omega)) (fun q' hq' => by have := dV_ hq hq'; omega)
      have := I.G.sl q i hq hqj hsl hi2
      rwa [hxg] at this
     ·obtain ⟨T1, h1, S1, I1⟩ := g7_ g (S' := S) hcl (q - j) j T h S I hbelow
      rw [show j + (q - j) = q by omega] at I1
      obtain ⟨T2, h2, S2, I2⟩ := ng_ g I1 hq hsl
      refine hni_edge hfl (q + 1) T2 h2 S2 I2 ?_ hcalm (hnwAt (q + 1) (by omega)) (fun q' hq' => by have := dV_ hq hq'; omega)
      have := I2.G.sl q i hq (by omega) hsl hi2
      rwa [hxg] at this
    | false =>
    have hqj : j ≤ q := by
     by_cases z : q < j
     ·have := (I.G.ch q i hq).1 z hsl; rw [hi2] at this; cases this
     ·omega
    obtain ⟨T', h', S', I'⟩ := g7_ g (S' := S) hcl (q - j) j T h S I hbelow
    rw [show j + (q - j) = q by omega] at I'
    have hreads := hreadsOf q T' h' S' I' (hnwAt q (Nat.le_refl _))
    have hrun := I'.G.run
    have hdrop : (chI ops l).drop q = i :: (chI ops l).drop (q + 1) := by
     have hql := (List.getElem?_eq_some_iff.1 hq).1
     rw [drop_eq_getElem_cons hql, (List.getElem?_eq_some_iff.1 hq).2]
    rw [hdrop, map_cons, f7_] at hrun
    rw [hxg] at hrun
    have hw := pD_ x.op (dC_ hreads) hrun
    have hW : ∀ k, a6_ ops l (L.setIfInBounds i true) (q + 1) k = if k = i then false else a6_ ops l L q k := by
     intro k
     unfold a6_
     rw [hset, fD_ hq]
     by_cases e : k = i
     ·subst e; simp only [if_pos, hfl]; simp
     ·simp only [if_neg e]
    have hA : ∀ k, aS_ ops l (L.setIfInBounds i true) (q + 1) k = if k = i then true else aS_ ops l L q k := by
     intro k
     unfold aS_
     rw [hset, fD_ hq]
     by_cases e : k = i
     ·subst e; simp only [if_pos, hfl]; simp
     ·simp only [if_neg e]
    refine h4_ (Q := Q) low1 low2 I'.hm (hgl.up I'.st.le) I'.hr hw ?_
    rintro v av S'' h'' w'' st' hm' rv ⟨hloose, hrest⟩
    refine ih _ (q + 1) (put T' x.dst av) h'' S'' _ w'' B hcnt (by simp [hs]) hcl' ⟨I'.st.trans st', hm', ?_, ⟨fun q' c hc' => ⟨fun hq' hqs => ?_, fun h1 h2 => ?_⟩, fun p hp hpl => ?_, fun q' p hq' hqj' hps hpl => ?_, fun q' c d hc' hd hjq => ?_, fun s hs' => ?_, hrest⟩,
     hpnOf I' hfl (fun k hk => by rw [hW] at hk; split at hk; cases hk; exact hk) st'⟩
    ·have e := jV_ (t0 := t0) g.one hil hA hW T' av
     rw [hxg] at e
     rw [e, ej_]
     exact (I'.hr.up st'.le).put rv
    ·rw [hset]
     split
     ·rfl
     ·rename_i e
      refine (I'.G.ch q' c hc').1 ?_ hqs
      have hne : q' ≠ q := by rintro rfl; rw [hq] at hc'; exact e (Option.some.inj hc').symm
      omega
    ·rw [hset] at h2
     split at h2
     ·rename_i e
      subst e
      have := dV_ hq hc'
      omega
     ·have := (I'.G.ch q' c hc').2 h1 h2
      omega
    ·rw [hset] at hpl
     split at hpl
     ·cases hpl
     ·have hnr : ew_ ops l.length i p = false := by
       cases hz : ew_ ops l.length i p with
       | false => rfl
       | true => have := fo_ hcl _ i p hshut hz; rw [hpl] at this; cases this
      exact g3_ hloose (mem_map.2 ⟨p, mem_filter.2 ⟨hp, by rw [hnr]; rfl⟩, rfl⟩)
    ·rw [hset] at hpl
     split at hpl
     ·cases hpl
     ·rename_i hpi
      have hq'q : q' < q := by
       have : q' ≠ q := by rintro rfl; rw [hq] at hq'; exact hpi (Option.some.inj hq').symm
       omega
      obtain ⟨d2, e1, e2⟩ := I'.G.sl q' p hq' hq'q hps hpl
      have hpn := (dS_ hq').1
      have hpi' : p ≠ i := by rintro rfl; have := dV_ hq' hq; omega
      refine ⟨d2, e1, ?_⟩
      cases hxd : x.dst with
      | none =>
       rw [iG_ (en_ hps).1 _ _ h']
       exact e2
      | some dx =>
       have hnd : dx ∉ (gat l p).reads := by
        intro hr
        rcases g.rd p i dx hpn hil (by rw [hxg]; exact hxd) hr with ⟨_, h2⟩ | ⟨_, _, hed⟩
        ·have := g.edg q q' i p hq hq' hq'q; rw [h2] at this; cases this
        ·obtain ⟨o, e, q1, q2, q3, q4⟩ := cj_ hed
         have := i3 o e q1 q2 q3
         rw [q4] at this
         rw [this] at hpl; cases hpl
       rw [gE_ hnd, iG_ (en_ hps).1 _ _ h', e2, ct_ (fun z => by
        exact hpi' (g.one p i d2 hpn hil e1 (by rw [hxg, hxd]; exact z)))]
    ·have hne : c ≠ i := by rintro rfl; have := dV_ hc' hq; omega
     rw [ct_ (fun z => hne (g.one c i d (dS_ hc').1 hil hd (by rw [hxg]; exact z)))]
     exact I'.G.old q' c d hc' hd (by omega)
    ·rw [ct_ (by rw [← hxg]; exact hs' i hil)]
     exact I'.G.oth s hs'
  ·-- one that only looks
   have hch' : bG_ ops l i = false := by simpa using hch
   have hip : i ∈ my_ ops l := mem_filter.2 ⟨mem_range.2 hil, by rw [hch']; rfl⟩
   have hni : c8_ l i = false := by
    cases z : c8_ l i with
    | false => rfl
    | true =>
     rw [h5_ z hil] at hch'; cases hch'
   have hnw : ∀ k, k < i → bN_ ops i k = true → a6_ ops l L j k = false := by
    intro k hki hed
    cases hw : a6_ ops l L j k with
    | false => rfl
    | true =>
     exfalso
     unfold a6_ at hw
     simp only [Bool.and_eq_true] at hw
     have h1 : (gat l k).op.calm = false := by
      rcases (hk_ hw.1.2).1 with ⟨E, z, e⟩ | ⟨E, sz, z, e⟩ <;> (rw [e]; rfl)
     have : bG_ ops l i = true := by
      unfold bG_
      rw [Bool.or_eq_true]
      right
      rw [any_eq_true]
      refine ⟨k, mem_range.2 hki, ?_⟩
      rw [Bool.and_eq_true]
      refine ⟨by rw [h1]; rfl, ?_⟩
      obtain ⟨n, hn⟩ : ∃ n, l.length = n + 1 := ⟨l.length - 1, by omega⟩
      rw [hn, ew_, hed]; rfl
     rw [hch'] at this; cases this
   obtain ⟨d, hd, hev⟩ := I.G.pre i hip hi2
   rw [hxg] at hd hev
   have hcalm : x.op.calm = true := by
    have := hch'
    rw [bG_, Bool.or_eq_false_iff, hxg] at this
    simpa using this.1
   exact hni_edge hni j T h S I ⟨d, hd, hev⟩ hcalm hnw (fun q hq => by rw [(dS_ hq).2] at hch'; cases hch')
theorem lZ_ {h : List Row} {Kp : (Nat → AV) → Prop} : ∀ {pre : List LI} {t : Nat → AV}, gd_ h pre t Kp → ∃ T, (∀ s, (∀ x ∈ pre, x.dst ≠ some s) → T s = t s) ∧ Kp T
 | [], t, q => ⟨t, fun _ _ => rfl, q⟩
 | i :: r, t, q => by
  unfold gd_ at q
  split at q
  ·rename_i v hv
   obtain ⟨T, h1, h2⟩ := lZ_ q
   exact ⟨T, fun s hs => by rw [h1 s (fun x hx => hs x (by simp [hx])), ct_ (hs i (by simp))], h2⟩
  ·exact q.elim
theorem pO_ {id : Nat} {S : Sit} {w : World} {a : Act} {t : Nat → AV} {h : List Row} (hmx : P.follows .mixedOrders = true) (hl : ops.toList.mapM (bP_ P N ops) = some l) (hok : hS_ ops l = true) (hw : gWp P (na_ ops l) (iX_ ops l) t h K) (hm : ae_ S h w) (hgl : cY_ P S) (hr : Rel S N t a)
 (hQ : ∀ S' t' h' a' w', a8_ S w S' w' → ae_ S' h' w' → Rel S' N t' a' → K t' h' → Q .normal a' w') : (Code.region id ops true).wp P Q a w := by
 have g := n2_ hok
 obtain ⟨T, h1, h2, h3⟩ := lZ_ hw
 refine wp_region_any hmx ?_
 have hL : ∀ k, (Array.replicate ops.size false).getD k false = false := by
  intro k
  rw [Array.getD_eq_getD_getElem?]
  by_cases q : k < ops.size
  ·rw [Array.getElem?_eq_getElem (by simpa using q)]; simp
  ·rw [Array.getElem?_eq_none (by simpa using q)]; rfl
 have hA0 : ∀ k, aS_ ops l (Array.replicate ops.size false) 0 k = false := fun k => by unfold aS_; rw [hL]; rfl
 have hW0 : ∀ k, a6_ ops l (Array.replicate ops.size false) 0 k = false := fun k => by unfold a6_; rw [hL]; rfl
 have hcur : dM_ l t T (aS_ ops l (Array.replicate ops.size false) 0) (a6_ ops l (Array.replicate ops.size false) 0) = t := by
  funext s
  refine e9_ (fun k _ hk => ?_) (fun k _ hk => ?_)
  ·rw [hA0] at hk; cases hk
  ·rw [hW0] at hk; cases hk
 have hm' : ae_ S h { w with drawn := w.drawn + 1 } := hm.moved rfl
 have hst : a8_ S w S { w with drawn := w.drawn + 1 } := ⟨.refl S, rfl, rfl, rfl, Nat.le_refl _, fun _ _ _ => rfl, fun _ q => .inl q, fun _ _ q => .inl q⟩
 have inPre : ∀ x ∈ na_ ops l, ∃ p, p ∈ my_ ops l ∧ p < l.length ∧ bG_ ops l p = false ∧ gat l p = x := by
  intro x hx
  obtain ⟨p, hp, e⟩ := mem_map.1 hx
  have := mem_filter.1 hp
  exact ⟨p, hp, mem_range.1 this.1, by simpa using this.2, e⟩
 have G : Gm P ops l t K (Array.replicate ops.size false) 0 T h := by
  refine ⟨fun q c _ => ⟨fun q => by omega, fun _ q => by rw [hL] at q; cases q⟩, fun p hp _ => g3_ h2 (mem_map.2 ⟨p, hp, rfl⟩), fun q p _ hq => by omega, fun q c d hc0 hd _ => ?_, fun s hs => ?_, by simpa [iX_] using h3⟩
  ·obtain ⟨hc, hcc⟩ := dS_ hc0
   refine h1 d fun x hx hxd => ?_
   obtain ⟨p, _, hpl, hpc, e⟩ := inPre x hx
   have := g.one p c d hpl hc (by rw [e]; exact hxd) hd
   subst this
   rw [hcc] at hpc; cases hpc
  ·refine h1 s fun x hx hxd => ?_
   obtain ⟨p, _, hpl, _, e⟩ := inPre x hx
   exact hs p hpl (by rw [e]; exact hxd)
 refine sk_ (S0 := S) (w0 := w) (K := K) (t0 := t) hgl hl g (fun S' T' h' a' w' st hm' hr' hk => hQ S' T' h' a' w' st hm' hr' hk) ops.size _ 0 T h S a _ (fun _ => 0) ?_ (by simp) ?_ ⟨hst, hm', by rw [hcur]; exact hr, G, ⟨fun k _ hk => absurd hk (by rw [hW0]; simp), fun k _ _ _ hk => absurd hk (by rw [hW0]; simp)⟩⟩
 ·have := countP_le_length (p := fun b : Bool => !b) (l := (Array.replicate ops.size false).toList)
  simpa using this
 ·intro k hk
  rw [hL] at hk; cases hk
end
section
variable {P : Program} {N : Nat} {pf : Bool}
def i9_ (N : Nat) (S : Sit) (w : World) (Q : LE → (Nat → AV) → List Row → Prop) (e : Exit) (a' : Act) (w' : World) : Prop :=
 ∃ S' t' h', a8_ S w S' w' ∧ ae_ S' h' w' ∧ Rel S' N t' a' ∧
  match e with
  | .normal => Q .normal t' h'
  | .exit id => Q (.exit id) t' h'
  | .ret => Q .ret t' h'
  | _ => False
theorem ja_ {ops : Array Oper} {S0 : Sit} {w0 : World} {K : (Nat → AV) → List Row → Prop} {Q : Exit → Act → World → Prop} (hgl : cY_ P S0)
 (hQ : ∀ S t h a w, a8_ S0 w0 S w → ae_ S h w → Rel S N t a → K t h → Q .normal a w) : ∀ (os : List Oper) (j : Nat) (l : List LI) (t : Nat → AV) (h : List Row) (S : Sit) (a : Act) (w : World),
 os = ops.toList.drop j → os.mapM (bP_ P N ops) = some l → fp_ P l t h K → a8_ S0 w0 S w → ae_ S h w → Rel S N t a → wpOps P ops Q (List.range' j os.length) a w
 | [], j, l, t, h, S, a, w, _, hl, hw, st, hm, hr => by
  simp at hl; subst hl
  simp only [List.length_nil, range'_zero, wpOps]
  exact hQ S t h a w st hm hr hw
 | o :: os, j, l, t, h, S, a, w, ho, hl, hw, st, hm, hr => by
  rw [mapM_cons] at hl
  cases h1 : bP_ P N ops o with
  | none => simp [h1] at hl
  | some x =>
   cases h2 : os.mapM (bP_ P N ops) with
   | none => simp [h1, h2] at hl
   | some l' =>
    simp [h1, h2] at hl
    subst hl
    have hget : ops[j]? = some o := by
     have : (ops.toList.drop j)[0]? = some o := by rw [← ho]; rfl
     simpa using this
    have hrest : os = ops.toList.drop (j + 1) := by
     have : (ops.toList.drop j).drop 1 = os := by rw [← ho]; rfl
     rw [drop_drop] at this
     exact this.symm
    obtain ⟨low1, low2, ej_, jZ_, _⟩ := dT_ h1
    simp only [List.length_cons, range'_succ]
    rw [wpOps_cons]
    simp only [wpOp, hget]
    simp only [fp_] at hw
    cases hq : b1_ t x.guard with
    | none => rw [hq] at hw; exact hw.elim
    | some q =>
     rw [hq] at hw
     rw [ei_ h1 hr hq]
     cases q with
     | true =>
      simp only [if_true]
      left
      refine h4_ (Q := Q) low1 low2 hm (hgl.up st.le) hr hw ?_
      intro v av S' h' w' st' hm' rv hk
      refine ja_ hgl hQ os (j + 1) l' _ h' S' _ w' hrest h2 hk (st.trans st') hm' ?_
      rw [ej_]
      exact (hr.up st'.le).put rv
     | false =>
      simp only [Bool.false_eq_true, if_false]
      refine ja_ hgl hQ os (j + 1) l' _ h S _ w hrest h2 hw st hm ?_
      rw [ej_]
      exact hr.put (by simp [Rep])
theorem mF_ {code : Code} (h : aV_ P N pf code = some .skip) : code = .skip := by
 cases code <;> simp only [aV_] at h <;> first | rfl | (repeat' split at h) <;> simp_all
theorem m0_ {code : Code} {id : Nat} (h : aV_ P N pf code = some (.exit id)) : code = .exit id := by
 cases code <;> simp only [aV_] at h <;> first | (simp at h; subst h; rfl) | (repeat' split at h) <;> simp_all
theorem oF_ {code : Code} (h : aV_ P N pf code = some .ret) : code = .ret := by
 cases code <;> simp only [aV_] at h <;> first | rfl | (repeat' split at h) <;> simp_all
theorem os_ {code : Code} {l : List LI} (h : aV_ P N pf code = some (.ops l)) : ∃ id ops, code = .region id ops false ∧ ops.toList.mapM (bP_ P N ops) = some l := by
 cases code with
 | region id ops draw =>
  simp only [aV_] at h
  split at h
  ·rename_i l' hl
   cases draw with
   | true =>
    simp only [if_true] at h
    (repeat' split at h) <;> simp at h
   | false =>
    simp at h; subst h
    exact ⟨id, ops, rfl, hl⟩
  ·simp at h
 | _ => simp only [aV_] at h <;> (repeat' split at h) <;> simp_all
theorem nG_ {code : Code} {l : List LI} (h : aV_ P N pf code = some (.dops l)) : ∃ id ops l0, code = .region id ops true ∧ ops.toList.mapM (bP_ P N ops) = some l0 ∧ l = l0.map LI.asImm ∧ hD_ ops l = true := by
 cases code with
 | region id ops draw =>
  simp only [aV_] at h
  split at h
  ·rename_i l' hl
   cases draw with
   | true =>
    simp only [if_true] at h
    split at h
    ·simp at h
    ·split at h
     ·rename_i hk
      simp at h; subst h
      exact ⟨id, ops, l', rfl, hl, rfl, hk⟩
     ·split at h <;> simp at h
   | false => simp at h
  ·simp at h
 | _ => simp only [aV_] at h <;> (repeat' split at h) <;> simp_all
theorem q0_ {code : Code} {pre : List LI} {chain : List (LI × List LI)} (h : aV_ P N pf code = some (.gops pre chain)) : ∃ id ops l, code = .region id ops true ∧ ops.toList.mapM (bP_ P N ops) = some l ∧ na_ ops l = pre ∧ iX_ ops l = chain ∧ hS_ ops l = true := by
 cases code with
 | region id ops draw =>
  simp only [aV_] at h
  split at h
  ·rename_i l' hl
   cases draw with
   | true =>
    simp only [if_true] at h
    split at h
    ·rename_i hk
     simp only [Bool.and_eq_true] at hk
     simp at h
     exact ⟨id, ops, l', rfl, hl, h.1, h.2, hk.2⟩
    ·split at h
     ·simp at h
     ·split at h
      ·rename_i hk
       simp at h
       exact ⟨id, ops, l', rfl, hl, h.1, h.2, hk⟩
      ·simp at h
   | false => simp at h
  ·simp at h
 | _ => simp only [aV_] at h <;> (repeat' split at h) <;> simp_all
theorem oz_ {code : Code} {x y : LC} (h : aV_ P N pf code = some (.seq x y)) : ∃ a b, code = .seq a b ∧ aV_ P N pf a = some x ∧ aV_ P N pf b = some y := by
 cases code with
 | seq a b =>
  simp only [aV_] at h
  split at h
  ·rename_i x' y' hx hy
   simp at h
   exact ⟨a, b, rfl, by rw [hx, h.1], by rw [hy, h.2]⟩
  ·simp at h
 | _ => simp only [aV_] at h <;> (repeat' split at h) <;> simp_all
theorem mD_ {code : Code} {c : Operand} {x y : LC} (h : aV_ P N pf code = some (.cond c x y)) : ∃ a b, code = .cond c a b ∧ aV_ P N pf a = some x ∧ aV_ P N pf b = some y ∧ aj_ N c = true := by
 cases code with
 | cond c' a b =>
  simp only [aV_] at h
  split at h
  ·rename_i x' y' hx hy
   split at h
   ·rename_i hc
    simp at h
    obtain ⟨h1, h2, h3⟩ := h
    subst h1
    exact ⟨a, b, rfl, by rw [hx, h2], by rw [hy, h3], hc⟩
   ·simp at h
  ·simp at h
 | _ => simp only [aV_] at h <;> (repeat' split at h) <;> simp_all
theorem lC_ {code : Code} {id : Nat} {x : LC} (h : aV_ P N pf code = some (.block id x)) : ∃ a, code = .block id a ∧ aV_ P N pf a = some x := by
 cases code with
 | block id' a =>
  simp only [aV_, Option.map_eq_some_iff] at h
  obtain ⟨x', hx, e⟩ := h
  simp at e
  obtain ⟨e1, e2⟩ := e
  subst e1 e2
  exact ⟨a, rfl, hx⟩
 | _ => simp only [aV_] at h <;> (repeat' split at h) <;> simp_all
theorem nc_ {code : Code} {x : LC} (h : aV_ P N pf code = some (.loop x)) : ∃ a, code = .loop a ∧ aV_ P N pf a = some x := by
 cases code with
 | loop a =>
  simp only [aV_, Option.map_eq_some_iff] at h
  obtain ⟨x', hx, e⟩ := h
  simp at e
  subst e
  exact ⟨a, rfl, hx⟩
 | _ => simp only [aV_] at h <;> (repeat' split at h) <;> simp_all
theorem i9_.step {S S1 : Sit} {w w1 : World} {Q : LE → (Nat → AV) → List Row → Prop} {e : Exit} {a : Act} {w' : World} (st : a8_ S w S1 w1) (h : i9_ N S1 w1 Q e a w') : i9_ N S w Q e a w' := by
 obtain ⟨S', t', h', h1, h2, h3, h4⟩ := h
 exact ⟨S', t', h', st.trans h1, h2, h3, h4⟩
theorem qw_ (hmx : P.follows .mixedOrders = true) : ∀ (lc : LC) (code : Code) (Q : LE → (Nat → AV) → List Row → Prop) (t : Nat → AV) (h : List Row) (S : Sit) (a : Act) (w : World),
 aV_ P N pf code = some lc.erase → awp P N lc Q t h → ae_ S h w → cY_ P S → Rel S N t a → code.wp P (i9_ N S w Q) a w := by
 intro lc
 induction lc with
 | skip =>
  intro code Q t h S a w hl hw hm hgl hr
  have := mF_ hl; subst this
  exact wp_skip ⟨S, t, h, a8_.refl _ _, hm, hr, hw⟩
 | exit id =>
  intro code Q t h S a w hl hw hm hgl hr
  have := m0_ hl; subst this
  exact wp_exit ⟨S, t, h, a8_.refl _ _, hm, hr, hw⟩
 | ret =>
  intro code Q t h S a w hl hw hm hgl hr
  have := oF_ hl; subst this
  exact wp_ret ⟨S, t, h, a8_.refl _ _, hm, hr, hw⟩
 | ops l =>
  intro code Q t h S a w hl hw hm hgl hr
  obtain ⟨id, ops, e, h1⟩ := os_ hl
  subst e
  refine wp_region ?_
  have := ja_ hgl (Q := i9_ N S w Q) (K := Q .normal) (S0 := S) (w0 := w) (fun S' t' h' a' w' st hm' hr' hk => ⟨S', t', h', st, hm', hr', hk⟩) ops.toList 0 l t h S a w (by simp) h1 hw (a8_.refl _ _) hm hr
  simpa [range_eq_range'] using this
 | dops l =>
  intro code Q t h S a w hl hw hm hgl hr
  obtain ⟨id, ops, l0, e, h1, h0, h2⟩ := nG_ hl
  subst e
  exact o0_ hmx h1 h0 h2 hw hm hgl hr (fun S' t' a' w' st hm' hr' hk => ⟨S', t', h, st, hm', hr', hk⟩)
 | gops pre chain =>
  intro code Q t h S a w hl hw hm hgl hr
  obtain ⟨id, ops, l, e, h1, e1, e2, h2⟩ := q0_ hl
  subst e e1 e2
  exact pO_ hmx h1 h2 hw hm hgl hr (fun S' t' h' a' w' st hm' hr' hk => ⟨S', t', h', st, hm', hr', hk⟩)
 | seq x y ihx ihy =>
  intro code Q t h S a w hl hw hm hgl hr
  obtain ⟨ca, cb, e, h1, h2⟩ := oz_ hl
  subst e
  refine wp_seq (wp_mono (ihx ca _ t h S a w h1 hw hm hgl hr) ?_)
  intro e a' w' hp
  obtain ⟨S', t', h', st, hm', hr', hq⟩ := hp
  cases e with
  | normal => exact wp_mono (ihy cb Q t' h' S' a' w' h2 hq hm' (hgl.up st.le) hr') fun e a'' w'' hp => hp.step st
  | exit id => exact ⟨S', t', h', st, hm', hr', hq⟩
  | ret => exact ⟨S', t', h', st, hm', hr', hq⟩
  | goto l => exact hq.elim
  | panic c => exact hq.elim
  | outgrown => exact hq.elim
 | cond c x y ihx ihy =>
  intro code Q t h S a w hl hw hm hgl hr
  obtain ⟨ca, cb, e, h1, h2, h3⟩ := mD_ hl
  subst e
  have rc := hr.eval h3
  simp only [awp] at hw
  split at hw
  ·rename_i q e
   rw [e] at rc
   simp only [Rep] at rc
   exact wp_cond_split rc (fun hq => ihx ca Q t h S a w h1 (hw.1 hq) hm hgl hr) (fun hq => ihy cb Q t h S a w h2 (hw.2 hq) hm hgl hr)
  ·exact hw.elim
 | block id x ih =>
  intro code Q t h S a w hl hw hm hgl hr
  obtain ⟨ca, e, h1⟩ := lC_ hl
  subst e
  refine wp_block (wp_mono (ih ca _ t h S a w h1 hw hm hgl hr) ?_)
  intro e a' w' hp
  obtain ⟨S', t', h', st, hm', hr', hq⟩ := hp
  cases e with
  | normal => exact ⟨S', t', h', st, hm', hr', hq⟩
  | exit k =>
   simp only [Exit.inBlock]
   split
   ·rename_i ek
    simp only [ek, if_true] at hq
    exact ⟨S', t', h', st, hm', hr', hq⟩
   ·rename_i ek
    simp only [ek, if_false] at hq
    exact ⟨S', t', h', st, hm', hr', hq⟩
  | ret => exact ⟨S', t', h', st, hm', hr', hq⟩
  | goto l => exact hq.elim
  | panic c => exact hq.elim
  | outgrown => exact hq.elim
 | loop x ih =>
  intro code Q t h S a w hl hw hm hgl hr
  obtain ⟨ca, e, h1⟩ := nc_ hl
  subst e
  obtain ⟨I, n, h0, hround⟩ := hw
  refine wp_loop_ghost (fun n a' w' => ∃ S' t' h', a8_ S w S' w' ∧ ae_ S' h' w' ∧ Rel S' N t' a' ∧ I n t' h') n ⟨S, t, h, a8_.refl _ _, hm, hr, h0⟩ ?_
  intro n a1 w1 ⟨S1, t1, h1', st1, hm1, hr1, hI⟩
  refine wp_mono (ih ca _ t1 h1' S1 a1 w1 h1 (hround n t1 h1' hI) hm1 (hgl.up st1.le) hr1) ?_
  intro e a' w' hp
  obtain ⟨S', t', h', st, hm', hr', hq⟩ := hp
  cases e with
  | normal =>
   obtain ⟨m, hlt, hI'⟩ := hq
   exact ⟨m, hlt, S', t', h', st1.trans st, hm', hr', hI'⟩
  | exit id => exact ⟨S', t', h', st1.trans st, hm', hr', hq⟩
  | ret => exact ⟨S', t', h', st1.trans st, hm', hr', hq⟩
  | goto l => exact hq.elim
  | panic c => exact hq.elim
  | outgrown => exact hq.elim
 | ghost x ih =>
  intro code Q t h S a w hl hw hm hgl hr
  obtain ⟨t', h', hg, hw'⟩ := hw
  obtain ⟨S', st, hm', hr'⟩ := hg S w a hm hr
  exact wp_mono (ih code Q t' h' S' a w hl hw' hm' (hgl.up st.le) hr') fun e a'' w'' hp => hp.step st
end
inductive LRes where
 | tmp (t : Nat)
 | cell (a : Nat) (n : Option Nat)
structure LF where
 np : Nat
 N : Nat
 body : LC
 res : List LRes
def cH_ (P : Program) (N : Nat) : ResultVar → Option LRes
 | .tmp t => if t < N then some (.tmp t) else none
 | .cell a ty => if a < N then (d3_ P ty).map (.cell a) else none
def eO_ (args : List AV) (k : Nat) : AV := args.getD k (.val Go.undef)
def c6_ (t : Nat → AV) (h : List Row) : LRes → Option AV
 | .tmp s => some (t s)
 | .cell a n => ai_ t h (.load n (.tmp a))
def cr_ : List AV → AV
 | [a] => a
 | as => .tup as
structure as_ (P : Program) (fn : Func) (lf : LF) : Prop where
 N : fn.ntmps = lf.N
 body : ∃ c pf, fn.body = some c ∧ aV_ P lf.N pf c = some lf.body.erase
 res : fn.results.toList.mapM (cH_ P lf.N) = some lf.res
 np : lf.np ≤ lf.N
theorem as_.mkP (pf : Bool) {P : Program} {fn : Func} {lf : LF} (h1 : fn.ntmps = lf.N) (h2 : fn.body.bind (aV_ P lf.N pf) = some lf.body.erase) (h3 : fn.results.toList.mapM (cH_ P lf.N) = some lf.res) (h4 : lf.np ≤ lf.N) : as_ P fn lf := by
 refine ⟨h1, ?_, h3, h4⟩
 simp only [Option.bind_eq_some_iff] at h2
 obtain ⟨c, e1, e2⟩ := h2
 exact ⟨c, pf, e1, e2⟩
theorem as_.mk' {P : Program} {fn : Func} {lf : LF} (h1 : fn.ntmps = lf.N) (h2 : fn.body.bind (aV_ P lf.N false) = some lf.body.erase) (h3 : fn.results.toList.mapM (cH_ P lf.N) = some lf.res) (h4 : lf.np ≤ lf.N) : as_ P fn lf := as_.mkP false h1 h2 h3 h4
theorem al_ {P : Program} {fn : Func} {lf : LF} (h1 : fn.ntmps = lf.N := by kernel_rfl) (h2 : fn.body.bind (aV_ P lf.N false) = some lf.body.erase := by kernel_rfl) (h3 : fn.results.toList.mapM (cH_ P lf.N) = some lf.res := by kernel_rfl) (h4 : lf.np ≤ lf.N := by decide) : as_ P fn lf := as_.mk' h1 h2 h3 h4
theorem as_.mkG {P : Program} {fn : Func} {lf : LF} (h1 : fn.ntmps = lf.N) (h2 : fn.body.bind (aV_ P lf.N true) = some lf.body.erase) (h3 : fn.results.toList.mapM (cH_ P lf.N) = some lf.res) (h4 : lf.np ≤ lf.N) : as_ P fn lf := as_.mkP true h1 h2 h3 h4
theorem ts_ {P : Program} {fn : Func} {lf : LF} (h1 : fn.ntmps = lf.N := by kernel_rfl) (h2 : fn.body.bind (aV_ P lf.N true) = some lf.body.erase := by kernel_rfl) (h3 : fn.results.toList.mapM (cH_ P lf.N) = some lf.res := by kernel_rfl) (h4 : lf.np ≤ lf.N := by decide) : as_ P fn lf := as_.mkG h1 h2 h3 h4
def cu_ (res : List LRes) (K : AV → List Row → Prop) (e : LE) (t : Nat → AV) (h : List Row) : Prop :=
 match e with
 | .exit _ => False
 | _ => ∃ avs, res.mapM (c6_ t h) = some avs ∧ K (cr_ avs) h
def ug_ (P : Program) (lf : LF) (args : List AV) (h : List Row) (K : AV → List Row → Prop) : Prop :=
 args.length = lf.np ∧ awp P lf.N lf.body (cu_ lf.res K) (eO_ args) h
theorem Rel.init {S : Sit} {N : Nat} {args : List AV} {vals : Array Value} (hr : af_ S args vals.toList) (hn : args.length ≤ N) :
 Rel S N (eO_ args) { tmps := vals ++ Array.replicate (N - vals.size) Go.undef, defers := [] } := by
 have hl := af_.length hr
 simp only [Array.length_toList] at hl
 refine ⟨by simp; omega, rfl, fun k hk => ?_⟩
 simp only [eO_, getD_eq_getElem?_getD, Array.getD_eq_getD_getElem?]
 by_cases q : k < args.length
 ·obtain ⟨v, hv, r⟩ := af_.get hr (getElem?_eq_getElem q)
  rw [Array.getElem?_append_left (by omega), getElem?_eq_getElem q]
  have : vals[k]? = some v := by simpa using hv
  rw [this]
  exact r
 ·rw [Array.getElem?_append_right (by omega), getElem?_eq_none (by omega)]
  have : k - vals.size < N - vals.size := by omega
  simp [this, Rep]
def kt_ (tmps : Array Value) : ResultVar → Sem Value
 | .tmp t => pure (tmps.getD t Go.undef)
 | .cell x ty => do loadVar ty (← asAddr (tmps.getD x Go.undef))
theorem kR_ (fn : Func) (tmps : Array Value) : results fn tmps = (fn.results.mapM (kt_ tmps)) >>= fun vs => pure (if h : vs.size = 1 then vs[0] else .tuple vs) := by
 unfold results
 congr 1
theorem tJ_ {P : Program} {S : Sit} {h : List Row} {w : World} {N : Nat} {t : Nat → AV} {a : Act} {rv : ResultVar} {lr : LRes} {av : AV} (hl : cH_ P N rv = some lr) (hm : ae_ S h w) (hr : Rel S N t a) (hv : c6_ t h lr = some av) :
 ∃ v, (kt_ a.tmps rv).run P w = .ok v w ∧ Rep S av v := by
 cases rv with
 | tmp s =>
  simp only [cH_] at hl
  split at hl
  ·rename_i hs
   simp at hl; subst hl
   simp only [c6_, Option.some.injEq] at hv; subst hv
   exact ⟨_, rfl, hr.2.2 s hs⟩
  ·simp at hl
 | cell x ty =>
  simp only [cH_] at hl
  split at hl
  ·rename_i hs
   simp only [Option.map_eq_some_iff] at hl
   obtain ⟨n, hn, e⟩ := hl; subst e
   simp only [c6_] at hv
   obtain ⟨v, h1, h2⟩ := kf_ (P := P) (o := { dst := none, op := .load ty (.tmp x), type := 0, pos := "", after := #[], guard := none }) rfl hn hm hr (x := .tmp x) (by simpa [aj_] using hs) hv
   refine ⟨v, ?_, h2⟩
   simp only [execOp, Instr.loadAt, Act.eval, Sem.run_bind] at h1
   cases hp : a.tmps.getD x Go.undef with
   | pointer p =>
    rw [hp] at h1
    cases p with
    | none => simp [Instr.sureAddr, stuck] at h1
    | some ad =>
     simp only [Instr.sureAddr, Sem.run_pure, Result.andThen_ok] at h1
     simp only [kt_, hp, asAddr, Sem.run_bind, Sem.run_pure, Result.andThen_ok]
     cases hq : (loadVar ty ad).run P w with
     | ok u w1 =>
      rw [hq] at h1
      simp at h1
      rw [h1.1, h1.2]
     | halt q w1 => rw [hq] at h1; simp at h1
   | _ => rw [hp] at h1; simp [Instr.sureAddr, stuck] at h1
  ·simp at hl
theorem hm_ {P : Program} {S : Sit} {h : List Row} {w : World} {N : Nat} {t : Nat → AV} {a : Act} : ∀ {rvs : List ResultVar} {lrs : List LRes} {avs : List AV}, rvs.mapM (cH_ P N) = some lrs → ae_ S h w → Rel S N t a → lrs.mapM (c6_ t h) = some avs →
 ∃ vs, (rvs.mapM (kt_ a.tmps)).run P w = .ok vs w ∧ af_ S avs vs
 | [], lrs, avs, hl, _, _, hv => by
  simp at hl; subst hl
  simp at hv; subst hv
  exact ⟨[], rfl, by simp [af_]⟩
 | rv :: rvs, lrs, avs, hl, hm, hr, hv => by
  rw [mapM_cons] at hl
  cases h1 : cH_ P N rv with
  | none => simp [h1] at hl
  | some lr =>
   cases h2 : rvs.mapM (cH_ P N) with
   | none => simp [h1, h2] at hl
   | some lrs' =>
    simp [h1, h2] at hl
    subst hl
    rw [mapM_cons] at hv
    cases h3 : c6_ t h lr with
    | none => simp [h3] at hv
    | some av =>
     cases h4 : lrs'.mapM (c6_ t h) with
     | none => simp [h3, h4] at hv
     | some avs' =>
      simp [h3, h4] at hv
      subst hv
      obtain ⟨v, r1, r2⟩ := tJ_ h1 hm hr h3
      obtain ⟨vs, r3, r4⟩ := hm_ h2 hm hr h4
      refine ⟨v :: vs, ?_, by simp only [af_]; exact ⟨v, vs, rfl, r2, r4⟩⟩
      rw [mapM_cons]
      simp only [Sem.run_bind]
      rw [r1]
      simp only [Result.andThen_ok]
      rw [r3]
      rfl
theorem bg_ {P : Program} {f : FuncId} {fn : Func} {lf : LF} {args : List AV} {h : List Row} {K : AV → List Row → Prop} (hmx : P.follows .mixedOrders = true) (hf : P.funcs[f]? = some fn) (hl : as_ P fn lf) (hw : ug_ P lf args h K) : callSem P f args h K := by
 obtain ⟨hnp, hw⟩ := hw
 intro S w vals hm hgl hr
 obtain ⟨c, pf, hb, hc⟩ := hl.body
 refine calls_of_wp hf hb ?_
 rw [hl.N]
 refine wp_mono (qw_ hmx lf.body c _ _ h S _ w hc hw hm hgl (Rel.init hr (by rw [hnp]; exact hl.np))) ?_
 intro e a' w' hp
 obtain ⟨S', t', h', st, hm', hr', hq⟩ := hp
 have fin : (∃ avs, lf.res.mapM (c6_ t' h') = some avs ∧ K (cr_ avs) h') → a'.defers = [] ∧ ∃ v, (results fn a'.tmps).run P w' = .ok v w' ∧ (∃ v_1 av S'_1 h'_1, Ending.returned v = .returned v_1 ∧ a8_ S w S'_1 w' ∧ ae_ S'_1 h'_1 w' ∧ Rep S'_1 av v_1 ∧ K av h'_1) := by
  rintro ⟨avs, h1, h2⟩
  refine ⟨hr'.2.1, ?_⟩
  obtain ⟨vs, r1, r2⟩ := hm_ hl.res hm' hr' h1
  have hlen := af_.length r2
  have hrun : (results fn a'.tmps).run P w' = .ok (if h : vs.toArray.size = 1 then vs.toArray[0] else .tuple vs.toArray) w' := by
   rw [kR_, Sem.run_bind, Array.mapM_eq_mapM_toList, Sem.run_map, r1]
   rfl
  refine ⟨_, hrun, _, cr_ avs, S', h', rfl, st, hm', ?_, h2⟩
  cases avs with
  | nil =>
   simp [af_] at r2; subst r2
   simp [cr_, Rep, af_]
  | cons av rest =>
   cases rest with
   | nil =>
    simp only [af_] at r2
    obtain ⟨v, r, e, r2, r3⟩ := r2
    subst r3 e
    simpa [cr_] using r2
   | cons av2 rest =>
    have : ¬ vs.toArray.size = 1 := by simp [hlen]
    simp only [this, dif_neg, not_false_eq_true, cr_, Rep]
    exact ⟨_, rfl, by simpa using r2⟩
 cases e with
 | normal => exact fin hq
 | ret => exact fin hq
 | exit id => exact hq.elim
 | goto l => exact hq.elim
 | panic c => exact hq.elim
 | outgrown => exact hq.elim
def AV.plain : AV → Bool
 | .val _ | .list _ _ _ | .iptr _ => true
 | .agg cs => cs.all AV.flat
 | .fn _ a b => a.all AV.flat && b.all AV.flat
 | _ => false
theorem hy_ {S : Sit} {a : AV} {x : Value} (h : a.plain = true) (r : Rep S a x) : Rep S.still a x := by
 cases a with
 | val v => exact ft_ rfl r
 | list tk sz es => exact ft_ rfl r
 | iptr cs => exact ft_ rfl r
 | agg cs =>
  simp only [Rep] at r ⊢
  obtain ⟨vs, e, r⟩ := r
  exact ⟨vs, e, eG_ h r⟩
 | fn f p q =>
  simp only [AV.plain, Bool.and_eq_true] at h
  simp only [Rep] at r ⊢
  obtain ⟨vs, us, e, r1, r2⟩ := r
  exact ⟨vs, us, e, eG_ h.1 r1, eG_ h.2 r2⟩
 | _ => simp [AV.plain] at h
theorem fh_ {S : Sit} : ∀ {as : List AV} {xs : List Value}, as.all AV.plain = true → af_ S as xs → af_ S.still as xs
 | [], xs, _, r => by simpa [af_] using r
 | a :: as, xs, h, r => by
  simp only [all_cons, Bool.and_eq_true] at h
  simp only [af_] at r ⊢
  obtain ⟨v, r', e, r1, r2⟩ := r
  exact ⟨v, r', e, hy_ h.1 r1, fh_ h.2 r2⟩
def resolve (h : List Row) : Nat → AV → Option AV
 | 0, _ => none
 | n + 1, a =>
  match a with
  | .val v => some (.val v)
  | .list tk s es => some (.list tk s es)
  | .iptr cs => some (.iptr cs)
  | .own l k =>
   match h[l]? with
   | some r => if r.es.length = k then (r.es.mapM fun (e : List AV) => e.mapM (resolve h n)).map (.list 0 r.sz) else none
   | none => none
  | .sub l k lo hi =>
   match h[l]? with
   | some r => if r.es.length = k then (((r.es.take hi).drop lo).mapM fun (e : List AV) => e.mapM (resolve h n)).map (.list 0 r.sz) else none
   | none => none
  | .ptr l k i off =>
   match h[l]? with
   | some r => if r.es.length = k then (match r.es[i]? with | some e => if off < e.length then ((e.drop off).mapM (resolve h n)).map .iptr else none | none => none) else none
   | none => none
  | .fn f p q =>
   match p.mapM (resolve h n), q.mapM (resolve h n) with
   | some p', some q' => some (.fn f p' q')
   | _, _ => none
  | .agg cs => (cs.mapM (resolve h n)).map .agg
  | .tup cs => (cs.mapM (resolve h n)).map .tup
  | _ => none
def Sit.ownsB (S : Sit) (b : Nat) : Bool := S.rows.any fun i => i.blk == some b
theorem df_ {S : Sit} {b : Nat} : S.ownsB b = true ↔ S.owns b := by
 simp only [Sit.ownsB, any_eq_true, beq_iff_eq, Sit.owns]
 constructor
 ·rintro ⟨i, hi, hb⟩
  obtain ⟨l, hl⟩ := mem_iff_getElem?.1 hi
  exact ⟨l, i, hl, hb⟩
 ·rintro ⟨l, i, hl, hb⟩
  exact ⟨i, mem_of_getElem? hl, hb⟩
def Sit.shut (S : Sit) (w : World) : Sit :=
 { imm := fun b => if S.ownsB b then (match w.heap[b]? with | some (.cells c _ _) => some c | _ => none) else S.imm b, rows := [] }
theorem gv_ {S : Sit} {h : List Row} {w : World} (m : ae_ S h w) : S.still.le (S.shut w) := by
 refine ⟨fun b c e => ?_, by simp [Sit.still]⟩
 have hn : S.ownsB b = false := by
  cases q : S.ownsB b with
  | false => rfl
  | true =>
   have := m.ownNotImm (df_.1 q)
   simp only [Sit.still] at e
   rw [this] at e; cases e
 simp only [Sit.shut, hn]
 exact e
theorem dA_ {h : List Row} {n : Nat} {S S' : Sit} (hone : ∀ a x r, Rep S a x → resolve h n a = some r → Rep S' r x) : ∀ {as : List AV} {xs : List Value} {rs : List AV}, af_ S as xs → as.mapM (resolve h n) = some rs → af_ S' rs xs
 | [], xs, rs, r, e => by
  simp at e; subst e
  simpa [af_] using r
 | a :: as, xs, rs, r, e => by
  rw [mapM_cons] at e
  cases h1 : resolve h n a with
  | none => simp [h1] at e
  | some r1 =>
   cases h2 : as.mapM (resolve h n) with
   | none => simp [h1, h2] at e
   | some rs' =>
    simp [h1, h2] at e
    subst e
    simp only [af_] at r ⊢
    obtain ⟨v, q, e, r2, r3⟩ := r
    exact ⟨v, q, e, hone a v r1 r2 h1, dA_ hone r3 h2⟩
theorem fr_ {h : List Row} {n : Nat} {S S' : Sit} (hone : ∀ a x r, Rep S a x → resolve h n a = some r → Rep S' r x) : ∀ {as : List AV} {xs : List Value} {rs : List AV}, ay_ S as xs → as.mapM (resolve h n) = some rs → ay_ S' rs xs ∧ rs.length = as.length
 | [], xs, rs, r, e => by
  simp at e; subst e
  simp [ay_]
 | a :: as, xs, rs, r, e => by
  rw [mapM_cons] at e
  cases h1 : resolve h n a with
  | none => simp [h1] at e
  | some r1 =>
   cases h2 : as.mapM (resolve h n) with
   | none => simp [h1, h2] at e
   | some rs' =>
    simp [h1, h2] at e
    subst e
    simp only [ay_] at r ⊢
    obtain ⟨v, q, e, r2, r3⟩ := r
    have := fr_ hone r3 h2
    exact ⟨⟨v, q, e, hone a v r1 r2 h1, this.1⟩, by simp [this.2]⟩
theorem fG_ {h : List Row} {n : Nat} {S S' : Sit} (hone : ∀ a x r, Rep S a x → resolve h n a = some r → Rep S' r x) : ∀ {es : List (List AV)} {xs : List Value} {rs : List (List AV)}, am_ S es xs → (es.mapM fun e => e.mapM (resolve h n)) = some rs →
 am_ S' rs xs ∧ rs.length = es.length ∧ ∀ sz, (∀ e ∈ es, e.length = sz) → ∀ e ∈ rs, e.length = sz
 | [], xs, rs, r, e => by
  simp at e; subst e
  simp [am_]
 | d :: es, xs, rs, r, e => by
  rw [mapM_cons] at e
  cases h1 : d.mapM (resolve h n) with
  | none => simp [h1] at e
  | some r1 =>
   cases h2 : (es.mapM fun e => e.mapM (resolve h n)) with
   | none => simp [h1, h2] at e
   | some rs' =>
    simp [h1, h2] at e
    subst e
    simp only [am_] at r ⊢
    have p1 := fr_ hone r.1 h1
    have p2 := fG_ hone r.2 h2
    refine ⟨⟨p1.1, by rw [p1.2]; exact p2.1⟩, by simp [p2.2.1], fun sz hsz e he => ?_⟩
    rcases mem_cons.1 he with q | q
    ·subst q; rw [p1.2]; exact hsz d (by simp)
    ·exact p2.2.2 sz (fun e he => hsz e (by simp [he])) e q
theorem hn_ {S : Sit} {h : List Row} {w : World} (m : ae_ S h w) : ∀ (n : Nat) (a : AV) (x : Value) (r : AV), Rep S a x → resolve h n a = some r → Rep (S.shut w) r x := by
 intro n
 induction n with
 | zero => intro a x r _ e; simp [resolve] at e
 | succ n ih =>
  intro a x r hr e
  have hflat : a.flat = true → r = a → Rep (S.shut w) r x := fun hf he => by
   subst he
   exact Rep.up (gv_ m) _ _ (ft_ hf hr)
  cases a with
  | val v => simp only [resolve, Option.some.injEq] at e; exact hflat rfl e.symm
  | list tk s es => simp only [resolve, Option.some.injEq] at e; exact hflat rfl e.symm
  | iptr cs => simp only [resolve, Option.some.injEq] at e; exact hflat rfl e.symm
  | agg cs =>
   simp only [resolve, Option.map_eq_some_iff] at e
   obtain ⟨rs, e1, e2⟩ := e
   subst e2
   simp only [Rep] at hr ⊢
   obtain ⟨vs, e3, hr⟩ := hr
   exact ⟨vs, e3, dA_ ih hr e1⟩
  | tup cs =>
   simp only [resolve, Option.map_eq_some_iff] at e
   obtain ⟨rs, e1, e2⟩ := e
   subst e2
   simp only [Rep] at hr ⊢
   obtain ⟨vs, e3, hr⟩ := hr
   exact ⟨vs, e3, dA_ ih hr e1⟩
  | own l k =>
   simp only [resolve] at e
   split at e
   ·rename_i row hl
    split at e
    ·rename_i hlen
     simp only [Option.map_eq_some_iff] at e
     obtain ⟨rs, e1, e2⟩ := e
     subst e2
     simp only [Rep] at hr
     obtain ⟨_, i, q1, q2, q3⟩ := hr
     obtain ⟨k1, k2, k3, k4⟩ := m.rows l i row q1 hl
     have hx := q3 (by omega)
     cases hb : i.blk with
     | none =>
      rw [hb] at k4
      simp only [sliceAt, hb] at hx
      rw [k4.1] at e1
      simp at e1; subst e1
      simp only [Rep]
      rcases hx with hx | ⟨_, p, hx⟩
      ·exact .inl ⟨trivial, trivial, _, _, hx⟩
      ·exact .inl ⟨trivial, trivial, _, _, hx⟩
     | some b =>
      rw [hb] at k4
      simp only [sliceAt, hb, reduceCtorEq, false_and, or_false] at hx
      by_cases hne : row.es = []
      ·rw [hne] at e1 k1
       simp at e1; subst e1
       simp only [Rep]
       rw [k1] at hx
       exact .inl ⟨trivial, trivial, _, _, hx⟩
      obtain ⟨_, c, _, ⟨_, j2, _⟩, j3, j4, j5, j6⟩ := k4.2.cells (.inl hne)
      have p := fG_ ih j3 e1
      simp only [Rep]
      right
      have hown : S.ownsB b = true := df_.2 ⟨l, i, q1, hb⟩
      refine ⟨b, 0, i.cap, c, by rw [hx, p.2.1, k1], by rw [p.2.1, ← k1]; exact j5, ?_, p.2.2 _ k3, .inl trivial, ?_, by simpa [Sit.shut, Sit.still] using p.1⟩
      ·simp [Sit.shut, hown, j2]
      ·rw [p.2.1, j4, ← k1, ← k2]
       simpa using Nat.mul_le_mul_right _ j5
    ·simp at e
   ·simp at e
  | fn f p q =>
   simp only [resolve] at e
   split at e
   ·rename_i p' q' e1 e2
    simp only [Option.some.injEq] at e; subst e
    simp only [Rep] at hr ⊢
    obtain ⟨vs, us, e3, r1, r2⟩ := hr
    exact ⟨vs, us, e3, dA_ ih r1 e1, dA_ ih r2 e2⟩
   ·simp at e
  | ptr l k j off =>
   simp only [resolve] at e
   split at e
   ·rename_i row hl
    split at e
    ·rename_i hlen
     split at e
     ·rename_i el hel
      split at e
      case isFalse => simp at e
      rename_i hoff
      simp only [Option.map_eq_some_iff] at e
      obtain ⟨rs, e1, e2⟩ := e
      subst e2
      simp only [Rep] at hr
      obtain ⟨_, i, q1, q2, q3⟩ := hr
      obtain ⟨k1, k2, k3, k4⟩ := m.rows l i row q1 hl
      obtain ⟨b, hb, hx⟩ := q3 (by omega)
      rw [hb] at k4
      obtain ⟨_, c, _, ⟨_, j2, _⟩, j3, j4, j5, j6⟩ := k4.2.cells (.inl (by intro q; rw [q] at hel; simp at hel))
      have h1 := am_.get j3 k3 hel
      have h2 := ay_.drop (k := off) h1
      rw [drop_drop] at h2
      have hle := ay_.length h2
      have p := fr_ ih h2 e1
      have hjl : j < row.es.length := (List.getElem?_eq_some_iff.1 hel).1
      have hell : el.length = row.sz := k3 el (mem_of_getElem? hel)
      have hown : S.ownsB b = true := df_.2 ⟨l, i, q1, hb⟩
      simp only [Rep]
      refine ⟨b, j * i.sz + off, c, hx, by simp [Sit.shut, hown, j2], ?_, by rw [k2]; simpa [Sit.shut, Sit.still] using p.1⟩
      rw [p.2, k2]
      simp only [length_drop, Array.length_toList] at hle
      simp only [length_drop]
      omega
     ·simp at e
    ·simp at e
   ·simp at e
  | sub l k lo hi =>
   simp only [resolve] at e
   split at e
   ·rename_i row hl
    split at e
    ·rename_i hlen
     simp only [Option.map_eq_some_iff] at e
     obtain ⟨rs, e1, e2⟩ := e
     subst e2
     have hs : d1_ h row.sz (.sub l k lo hi) = some ((row.es.take hi).drop lo) := by simp [d1_, hl, hlen]
     obtain ⟨s1, s2⟩ := fc_ m hs hr
     simp only [Rep] at hr
     obtain ⟨_, i, q1, q2, q3⟩ := hr
     obtain ⟨k1, k2, k3, k4⟩ := m.rows l i row q1 hl
     obtain ⟨g1, g2, g3⟩ := q3 (by omega)
     have hlen2 : ((row.es.take hi).drop lo).length = hi - lo := by simp; omega
     by_cases hz : hi - lo = 0
     ·have hnil : (row.es.take hi).drop lo = [] := eq_nil_of_length_eq_zero (by omega)
      rw [hnil] at e1
      simp at e1; subst e1
      simp only [Rep]
      rcases g3 with ⟨_, p, q⟩ | ⟨b, off, _, q, _⟩
      ·exact .inl ⟨trivial, trivial, _, _, q⟩
      ·rw [hz] at q; exact .inl ⟨trivial, trivial, _, _, q⟩
     ·have hne : row.es ≠ [] := by intro q; rw [q] at hlen; simp at hlen; omega
      rcases g3 with ⟨hb, p, q⟩ | ⟨b, off, hb, q, hoff⟩
      ·rw [hb] at k4; exact absurd k4.1 hne
      ·rw [hb] at k4
       obtain ⟨_, c, _, ⟨_, j2, _⟩, j3, j4, j5, j6⟩ := k4.2.cells (.inl hne)
       rw [hoff (by omega)] at q
       have hd := am_.drop (am_.take (k := hi) j3) (sz := row.sz) (k := lo) (fun x hx => k3 x (mem_of_mem_take hx))
       have p := fG_ ih hd e1
       simp only [Rep]
       right
       have hown : S.ownsB b = true := df_.2 ⟨l, i, q1, hb⟩
       refine ⟨b, lo * i.sz, i.cap - lo, c, by rw [q, p.2.1, hlen2], by rw [p.2.1, hlen2]; omega, ?_, p.2.2 _ s1, .inl trivial, ?_, ?_⟩
       ·simp [Sit.shut, hown, j2]
       ·rw [p.2.1, hlen2, j4, ← k2, ← Nat.add_mul]
        exact Nat.mul_le_mul_right _ (by omega)
       ·rw [k2]; simpa [Sit.shut, Sit.still] using p.1
    ·simp at e
   ·simp at e
  | _ => simp [resolve] at e
theorem qp_ {P : Program} {f : FuncId} {args : List AV} {R : AV → Prop} (hp : args.all AV.plain = true) (hw : callSem P f args [] fun av h' => ∃ n r, resolve h' n av = some r ∧ R r) (h : List Row) (K : AV → List Row → Prop) (hk : ∀ r, R r → K r h) : callSem P f args h K := by
 intro S w vals hm hgl hr
 have hm0 : ae_ S.still [] w := ⟨hm.imm, rfl, by simp [Sit.still], by simp [Sit.still]⟩
 refine (hw S.still w vals hm0 hgl (fh_ hp hr)).mono ?_
 rintro e w' ⟨v, av, S1, h1, rfl, st, hm1, rv, n, r, hres, hR⟩
 have rr := hn_ hm1 n av v r rv hres
 have hnone : ∀ b, ¬ S.still.owns b := by
  rintro b ⟨l, i, q, _⟩
  simp [Sit.still] at q
 have hblk : ∀ b, b < w.heap.size → w'.heap[b]? = w.heap[b]? := fun b hb => st.block b hb (hnone b)
 have hown1 : ∀ b, S1.owns b → w.heap.size ≤ b := fun b hb => by
  rcases st.ownNew b hb with q | q
  ·exact absurd q (hnone b)
  ·exact q
 have himm1 : ∀ b c, S1.imm b = some c → S.imm b = some c ∨ w.heap.size ≤ b := fun b c hb => by
  rcases st.immNew b c hb with q | q | q
  ·exact .inl q
  ·exact absurd q (hnone b)
  ·exact .inr q
 have hshut : ∀ b c, (S1.shut w').imm b = some c → S.imm b = some c ∨ w.heap.size ≤ b := by
  intro b c hb
  simp only [Sit.shut] at hb
  split at hb
  ·rename_i hq
   exact .inr (hown1 b (df_.1 hq))
  ·exact himm1 b c hb
 have hle : S.le { imm := (S1.shut w').imm, rows := S.rows } := by
  refine ⟨fun b c e => ?_, fun l i e => ⟨i, e, Nat.le_refl _, fun _ => rfl⟩⟩
  exact (gv_ hm1).imm b c (st.le.imm b c e)
 refine ⟨v, r, { imm := (S1.shut w').imm, rows := S.rows }, h, rfl, ⟨hle, st.os, st.tape, st.output, st.size, fun b hb _ => hblk b hb, fun b q => .inl q, fun b c q => ?_⟩, ⟨fun b c q => ?_, hm.len, fun l i rw q1 q2 => ?_, hm.one⟩, ?_, hk r hR⟩
 ·rcases hshut b c q with q | q
  ·exact .inl q
  ·exact .inr (.inr q)
 ·simp only [Sit.shut] at q
  split at q
  ·split at q
   ·rename_i c' E fr hb
    simp at q; subst q
    exact ⟨E, fr, hb⟩
   ·simp at q
  ·exact hm1.imm b c q
 ·obtain ⟨k1, k2, k3, k4⟩ := hm.rows l i rw q1 q2
  refine ⟨k1, k2, k3, ?_⟩
  cases hb : i.blk with
  | none => rw [hb] at k4; exact k4
  | some b =>
   rw [hb] at k4
   have j1 := k4.1
   have hlt := hm.ownLt ⟨l, i, q1, hb⟩
   refine ⟨?_, k4.2.le hle (hblk b hlt)⟩
   cases q : (S1.shut w').imm b with
   | none => rfl
   | some d =>
    rcases hshut b d q with q' | q'
    ·rw [j1] at q'; cases q'
    ·omega
 ·have hl2 : (S1.shut w').le { imm := (S1.shut w').imm, rows := S.rows } := ⟨fun _ _ e => e, by simp [Sit.shut]⟩
  exact Rep.up hl2 _ _ rr
theorem ty_ (q : Bool) (a b : Int) : bi_ .add q (.val (.int .i64 a)) (.val (.int .i64 b)) = some (.val (.int .i64 (IntKind.i64.wrap (a + b)))) := rfl
theorem tX_ (q : Bool) (a b : Int) : bi_ .sub q (.val (.int .i64 a)) (.val (.int .i64 b)) = some (.val (.int .i64 (IntKind.i64.wrap (a - b)))) := rfl
theorem k8_ (q : Bool) (a b : Int) : bi_ .mul q (.val (.int .i64 a)) (.val (.int .i64 b)) = some (.val (.int .i64 (IntKind.i64.wrap (a * b)))) := rfl
theorem tc_ (q : Bool) (k : IntKind) (a b : Int) : bi_ .lss q (.val (.int k a)) (.val (.int k b)) = some (.val (.bool (decide (a < b)))) := by cases k <;> rfl
theorem tz_ (q : Bool) (k : IntKind) (a b : Int) : bi_ .leq q (.val (.int k a)) (.val (.int k b)) = some (.val (.bool (decide (a ≤ b)))) := by cases k <;> rfl
theorem ta_ (q : Bool) (k : IntKind) (a b : Int) : bi_ .gtr q (.val (.int k a)) (.val (.int k b)) = some (.val (.bool (decide (b < a)))) := by cases k <;> rfl
theorem to_ (q : Bool) (k : IntKind) (a b : Int) : bi_ .geq q (.val (.int k a)) (.val (.int k b)) = some (.val (.bool (decide (b ≤ a)))) := by cases k <;> rfl
theorem tF_ (q : Bool) (k : IntKind) (a b : Int) : bi_ .eql q (.val (.int k a)) (.val (.int k b)) = some (.val (.bool (decide (a = b)))) := by cases k <;> rfl
theorem t1_ (q : Bool) (k : IntKind) (a b : Int) : bi_ .neq q (.val (.int k a)) (.val (.int k b)) = some (.val (.bool (!decide (a = b)))) := by cases k <;> rfl
theorem dl_ (a : ByteArray) : a.toList = a.data.toList := ByteArray.toList_eq a
theorem jL_ (a b : ByteArray) : (a.toList == b.toList) = decide (a = b) := by
 rw [dl_, dl_, Bool.eq_iff_iff]
 simp only [beq_iff_eq, decide_eq_true_eq]
 constructor
 ·intro h
  cases a; cases b
  simp at h
  simp [h]
 ·intro h; rw [h]
theorem rH_ (q : Bool) (a b : ByteArray) : bi_ .eql q (.val (.string a)) (.val (.string b)) = some (.val (.bool (decide (a = b)))) := by
 rw [← jL_]; rfl
theorem rd_ (q : Bool) (a b : ByteArray) : bi_ .neq q (.val (.string a)) (.val (.string b)) = some (.val (.bool (!decide (a = b)))) := by
 rw [← jL_]; rfl
theorem nD_ (q : Bool) (a b : ByteArray) : bi_ .lss q (.val (.string a)) (.val (.string b)) = some (.val (.bool (Op.bytesLess a.toList b.toList))) := rfl
theorem rM_ (a b : Bool) : bi_ .eql true (.val (.bool a)) (.val (.bool b)) = some (.val (.bool (decide (a = b)))) := rfl
theorem mW_ (a b : Bool) : bi_ .neq true (.val (.bool a)) (.val (.bool b)) = some (.val (.bool (!decide (a = b)))) := rfl
theorem tA_ (k : IntKind) (a b : Int) : gy_ 0 (.val (.int k a)) (.val (.int k b)) = some (decide (a = b)) := by
 simp only [gy_, if_true]; rfl
theorem ti_ (a b : ByteArray) : gy_ 1 (.val (.string a)) (.val (.string b)) = some (decide (a = b)) := by
 rw [← jL_]; rfl
theorem rq_ (a b : Bool) : gy_ 2 (.val (.bool a)) (.val (.bool b)) = some (decide (a = b)) := by
 cases a <;> cases b <;> rfl
theorem oc_ (as bs : List AV) : dz_ [] as bs = some true := by cases as <;> cases bs <;> rfl
theorem nb_ (k : Nat) (ks : List Nat) (a b : AV) (as bs : List AV) : dz_ (k :: ks) (a :: as) (b :: bs) = match gy_ k a b, dz_ ks as bs with | some p, some q => some (p && q) | _, _ => none := rfl
theorem nM_ (v : Value) : ec_ (Pure.pure v) = some (.val v) := rfl
theorem vq_ (b : Bool) : ec_ (Op.unary .not (.bool b)) = some (.val (.bool (!b))) := rfl
theorem vU_ (a : Int) : ec_ (Op.unary .neg (.int .i64 a)) = some (.val (.int .i64 (IntKind.i64.wrap (0 - a)))) := rfl
theorem az_ {n : Int} (h1 : -9223372036854775808 ≤ n) (h2 : n ≤ 9223372036854775807) : IntKind.i64.wrap n = n := by
 rw [IntKind.wrap_i64]; omega
theorem xd_ : ((-1 : Int) < 0) = True := by simp
theorem rK_ {α : Type} {xs : List α} {k : Nat} (h : k < xs.length) : xs[k]? = some xs[k] := getElem?_eq_getElem h
inductive Fr where
 | seq (b : LC)
 | blk (id : Nat)
 | loop (I : Nat → (Nat → AV) → List Row → Prop) (n : Nat)
abbrev dB_ := LE → (Nat → AV) → List Row → Prop
def exK (P : Program) (N : Nat) (Q : dB_) : List Fr → LE → (Nat → AV) → List Row → Prop
 | [], e, t, h => Q e t h
 | .seq b :: k, e, t, h => match e with | .normal => awp P N b (exK P N Q k) t h | e => exK P N Q k e t h
 | .blk id :: k, e, t, h => match e with | .exit j => if j = id then exK P N Q k .normal t h else exK P N Q k (.exit j) t h | e => exK P N Q k e t h
 | .loop I n :: k, e, t, h => match e with | .normal => ∃ m, m < n ∧ I m t h | e => exK P N Q k e t h
structure ExK (P : Program) (N : Nat) (Q : dB_) (k : List Fr) (e : LE) (t : Nat → AV) (h : List Row) : Prop where
 out : exK P N Q k e t h
structure Ex (P : Program) (N : Nat) (Q : dB_) (c : LC) (k : List Fr) (t : Nat → AV) (h : List Row) : Prop where
 out : awp P N c (exK P N Q k) t h
structure ExO (P : Program) (N : Nat) (Q : dB_) (l : List LI) (k : List Fr) (t : Nat → AV) (h : List Row) : Prop where
 out : fp_ P l t h (exK P N Q k .normal)
structure ExD (P : Program) (N : Nat) (Q : dB_) (l : List LI) (k : List Fr) (t : Nat → AV) (h : List Row) : Prop where
 out : gV_ P h l t (fun t' => exK P N Q k .normal t' h)
structure AfO (P : Program) (N : Nat) (Q : dB_) (d : Option Nat) (l : List LI) (k : List Fr) (t : Nat → AV) (v : AV) (h : List Row) : Prop where
 out : fp_ P l (put t d v) h (exK P N Q k .normal)
structure AfD (P : Program) (N : Nat) (Q : dB_) (d : Option Nat) (l : List LI) (k : List Fr) (t : Nat → AV) (h : List Row) (v : AV) : Prop where
 out : gV_ P h l (put t d v) (fun t' => exK P N Q k .normal t' h)
structure ExG (P : Program) (N : Nat) (Q : dB_) (w : Option Bool) (d : Option Nat) (op : LOp) (l : List LI) (k : List Fr) (t : Nat → AV) (h : List Row) : Prop where
 out : match w with
  | some true => aZ_ P t h (AfO P N Q d l k t) op
  | some false => fp_ P l (put t d (.val Go.undef)) h (exK P N Q k .normal)
  | none => False
structure ExH (P : Program) (N : Nat) (Q : dB_) (w : Option Bool) (d : Option Nat) (op : LOp) (l : List LI) (k : List Fr) (t : Nat → AV) (h : List Row) : Prop where
 out : match w with
  | some true => qWp P t h (AfD P N Q d l k t h) op
  | some false => gV_ P h l (put t d (.val Go.undef)) (fun t' => exK P N Q k .normal t' h)
  | none => False
theorem lj_ (P : Program) (N : Nat) (Q : dB_) (d : Option Nat) (l : List LI) (k : List Fr) (t : Nat → AV) : AfO P N Q d l k t = fun v h => fp_ P l (put t d v) h (exK P N Q k .normal) :=
 funext fun _ => funext fun _ => propext ⟨fun q => q.out, fun q => ⟨q⟩⟩
theorem lf_ (P : Program) (N : Nat) (Q : dB_) (d : Option Nat) (l : List LI) (k : List Fr) (t : Nat → AV) (h : List Row) : AfD P N Q d l k t h = fun v => gV_ P h l (put t d v) (fun t' => exK P N Q k .normal t' h) :=
 funext fun _ => propext ⟨fun q => q.out, fun q => ⟨q⟩⟩
section
variable {P : Program} {N : Nat} {Q : dB_} {k : List Fr} {t : Nat → AV} {h : List Row}
theorem tB_ : Ex P N Q .skip k t h = ExK P N Q k .normal t h := propext ⟨fun q => ⟨q.out⟩, fun q => ⟨q.out⟩⟩
theorem wd_ (a b : LC) : Ex P N Q (.seq a b) k t h = Ex P N Q a (.seq b :: k) t h := propext ⟨fun q => ⟨q.out⟩, fun q => ⟨q.out⟩⟩
theorem uY_ (l : List LI) : Ex P N Q (.ops l) k t h = ExO P N Q l k t h := propext ⟨fun q => ⟨q.out⟩, fun q => ⟨q.out⟩⟩
theorem tI_ (l : List LI) : Ex P N Q (.dops l) k t h = ExD P N Q l k t h := propext ⟨fun q => ⟨q.out⟩, fun q => ⟨q.out⟩⟩
theorem ub_ (c : LC) : Ex P N Q c k t h = awp P N c (exK P N Q k) t h := propext ⟨fun q => q.out, fun q => ⟨q⟩⟩
theorem aC_ (c : Operand) (a b : LC) : Ex P N Q (.cond c a b) k t h = match ak_ t c with | .val (.bool q) => (q = true → Ex P N Q a k t h) ∧ (q = false → Ex P N Q b k t h) | _ => False := by
 simp only [ub_]
 rfl
theorem rB_ (id : Nat) (b : LC) : Ex P N Q (.block id b) k t h = Ex P N Q b (.blk id :: k) t h := propext ⟨fun q => ⟨q.out⟩, fun q => ⟨q.out⟩⟩
theorem tM_ (id : Nat) : Ex P N Q (.exit id) k t h = ExK P N Q k (.exit id) t h := propext ⟨fun q => ⟨q.out⟩, fun q => ⟨q.out⟩⟩
theorem uj_ : Ex P N Q .ret k t h = ExK P N Q k .ret t h := propext ⟨fun q => ⟨q.out⟩, fun q => ⟨q.out⟩⟩
theorem tR_ : ExO P N Q [] k t h = ExK P N Q k .normal t h := propext ⟨fun q => ⟨q.out⟩, fun q => ⟨q.out⟩⟩
theorem q9_ (d : Option Nat) (op : LOp) (l : List LI) : ExO P N Q (⟨d, none, op⟩ :: l) k t h = aZ_ P t h (AfO P N Q d l k t) op := by
 rw [lj_]; exact propext ⟨fun q => q.out, fun q => ⟨q⟩⟩
theorem qj_ (d : Option Nat) (s : Nat) (want : Bool) (op : LOp) (l : List LI) : ExO P N Q (⟨d, some (s, want), op⟩ :: l) k t h = ExG P N Q (b1_ t (some (s, want))) d op l k t h := by
 refine propext ⟨fun q => ⟨?_⟩, fun q => ⟨?_⟩⟩
 ·have := q.out; rw [lj_]; exact this
 ·have := q.out; rw [lj_] at this; exact this
theorem rA_ (d : Option Nat) (op : LOp) (l : List LI) : ExG P N Q (some true) d op l k t h = aZ_ P t h (AfO P N Q d l k t) op := propext ⟨fun q => q.out, fun q => ⟨q⟩⟩
theorem qV_ (d : Option Nat) (op : LOp) (l : List LI) : ExG P N Q (some false) d op l k t h = ExO P N Q l k (put t d (.val Go.undef)) h := propext ⟨fun q => ⟨q.out⟩, fun q => ⟨q.out⟩⟩
theorem t6_ (d : Option Nat) (l : List LI) (v : AV) : AfO P N Q d l k t v h = ExO P N Q l k (put t d v) h := propext ⟨fun q => ⟨q.out⟩, fun q => ⟨q.out⟩⟩
theorem tH_ : ExD P N Q [] k t h = ExK P N Q k .normal t h := propext ⟨fun q => ⟨q.out⟩, fun q => ⟨q.out⟩⟩
theorem sh_ (d : Option Nat) (op : LOp) (l : List LI) : ExD P N Q (⟨d, none, op⟩ :: l) k t h = qWp P t h (AfD P N Q d l k t h) op := by
 rw [lf_]; exact propext ⟨fun q => q.out, fun q => ⟨q⟩⟩
theorem qr_ (d : Option Nat) (s : Nat) (want : Bool) (op : LOp) (l : List LI) : ExD P N Q (⟨d, some (s, want), op⟩ :: l) k t h = ExH P N Q (b1_ t (some (s, want))) d op l k t h := by
 refine propext ⟨fun q => ⟨?_⟩, fun q => ⟨?_⟩⟩
 ·have := q.out; rw [lf_]; exact this
 ·have := q.out; rw [lf_] at this; exact this
theorem rv_ (d : Option Nat) (op : LOp) (l : List LI) : ExH P N Q (some true) d op l k t h = qWp P t h (AfD P N Q d l k t h) op := propext ⟨fun q => q.out, fun q => ⟨q⟩⟩
theorem qQ_ (d : Option Nat) (op : LOp) (l : List LI) : ExH P N Q (some false) d op l k t h = ExD P N Q l k (put t d (.val Go.undef)) h := propext ⟨fun q => ⟨q.out⟩, fun q => ⟨q.out⟩⟩
theorem vc_ (d : Option Nat) (l : List LI) (v : AV) : AfD P N Q d l k t h v = ExD P N Q l k (put t d v) h := propext ⟨fun q => ⟨q.out⟩, fun q => ⟨q.out⟩⟩
theorem te_ (e : LE) : ExK P N Q [] e t h = Q e t h := propext ⟨fun q => q.out, fun q => ⟨q⟩⟩
theorem k3_ (b : LC) : ExK P N Q (.seq b :: k) .normal t h = Ex P N Q b k t h := propext ⟨fun q => ⟨q.out⟩, fun q => ⟨q.out⟩⟩
theorem nS_ (b : LC) : ExK P N Q (.seq b :: k) .ret t h = ExK P N Q k .ret t h := propext ⟨fun q => ⟨q.out⟩, fun q => ⟨q.out⟩⟩
theorem m2_ (b : LC) (i : Nat) : ExK P N Q (.seq b :: k) (.exit i) t h = ExK P N Q k (.exit i) t h := propext ⟨fun q => ⟨q.out⟩, fun q => ⟨q.out⟩⟩
theorem lh_ (i : Nat) : ExK P N Q (.blk i :: k) .normal t h = ExK P N Q k .normal t h := propext ⟨fun q => ⟨q.out⟩, fun q => ⟨q.out⟩⟩
theorem or_ (i : Nat) : ExK P N Q (.blk i :: k) .ret t h = ExK P N Q k .ret t h := propext ⟨fun q => ⟨q.out⟩, fun q => ⟨q.out⟩⟩
theorem m4_ (i j : Nat) : ExK P N Q (.blk i :: k) (.exit j) t h = if j = i then ExK P N Q k .normal t h else ExK P N Q k (.exit j) t h := by
 refine propext ⟨fun q => ?_, fun q => ⟨?_⟩⟩
 ·have := q.out
  simp only [exK] at this
  split
  ·rename_i e; rw [if_pos e] at this; exact ⟨this⟩
  ·rename_i e; rw [if_neg e] at this; exact ⟨this⟩
 ·simp only [exK]
  split
  ·rename_i e; rw [if_pos e] at q; exact q.out
  ·rename_i e; rw [if_neg e] at q; exact q.out
theorem nl_ (I : Nat → (Nat → AV) → List Row → Prop) (n : Nat) : ExK P N Q (.loop I n :: k) .ret t h = ExK P N Q k .ret t h := propext ⟨fun q => ⟨q.out⟩, fun q => ⟨q.out⟩⟩
theorem mn_ (I : Nat → (Nat → AV) → List Row → Prop) (n j : Nat) : ExK P N Q (.loop I n :: k) (.exit j) t h = ExK P N Q k (.exit j) t h := propext ⟨fun q => ⟨q.out⟩, fun q => ⟨q.out⟩⟩
theorem kG_ (I : Nat → (Nat → AV) → List Row → Prop) (n : Nat) : ExK P N Q (.loop I n :: k) .normal t h = ∃ m, m < n ∧ I m t h := propext ⟨fun q => q.out, fun q => ⟨q⟩⟩
theorem aJ_ {b : LC} (I : Nat → (Nat → AV) → List Row → Prop) (n : Nat) (h0 : I n t h)
 (hr : ∀ (J : Nat → (Nat → AV) → List Row → Prop), (∀ m t h, I m t h → J m t h) → ∀ n t h, I n t h → Ex P N Q b (.loop J n :: k) t h) : Ex P N Q (.loop b) k t h :=
 ⟨I, n, h0, fun n t h hi => (hr I (fun _ _ _ q => q) n t h hi).out⟩
theorem is_ {b : LC} (t' : Nat → AV) (h' : List Row) (hg : km_ N t h t' h') (hb : Ex P N Q b k t' h') : Ex P N Q (.ghost b) k t h := ⟨t', h', hg, hb.out⟩
theorem b4_ {lf : LF} {args : List AV} {K : AV → List Row → Prop} (hn : args.length = lf.np) (h1 : Ex P lf.N (cu_ lf.res K) lf.body [] (eO_ args) h) : ug_ P lf args h K := ⟨hn, by
 have e : exK P lf.N (cu_ lf.res K) [] = cu_ lf.res K := rfl
 have := h1.out
 rw [e] at this
 exact this⟩
theorem om_ (res : List LRes) (K : AV → List Row → Prop) : cu_ res K .normal t h = ∃ avs, res.mapM (c6_ t h) = some avs ∧ K (cr_ avs) h := rfl
theorem qG_ (s : Nat) (K : AV → List Row → Prop) : cu_ [.tmp s] K .ret t h = K (t s) h := by
 simp [cu_, c6_, cr_]
theorem qv_ (s u : Nat) (K : AV → List Row → Prop) : cu_ [.tmp s, .tmp u] K .ret t h = K (.tup [t s, t u]) h := by
 simp [cu_, c6_, cr_]
theorem qF_ (s u v : Nat) (K : AV → List Row → Prop) : cu_ [.tmp s, .tmp u, .tmp v] K .ret t h = K (.tup [t s, t u, t v]) h := by
 simp [cu_, c6_, cr_]
end
theorem tx_ (t : Nat → AV) (d : Nat) (v : AV) (x : Nat) : upd t d v x = if x = d then v else t x := rfl
theorem r0_ (t : Nat → AV) (d : Nat) (v : AV) : put t (some d) v = upd t d v := rfl
theorem sm_ (t : Nat → AV) (v : AV) : put t none v = t := rfl
theorem ah_ {P : Program} {f : FuncId} {fn : Func} {lf : LF} {args : List AV} {r : AV} (hmx : P.follows .mixedOrders = true) (hf : P.funcs[f]? = some fn) (hl : as_ P fn lf) (hn : args.length = lf.np) (hp : args.all AV.plain = true)
 (hw : Ex P lf.N (cu_ lf.res fun av h' => ∃ n, resolve h' n av = some r) lf.body [] (eO_ args) []) (h : List Row) : aa_ P f args h r := by
 intro K hk
 refine qp_ (R := fun x => x = r) hp ?_ h K (by rintro _ rfl; exact hk)
 refine (bg_ hmx hf hl (b4_ hn hw)).mono ?_
 rintro a h' ⟨n, e⟩
 exact ⟨n, r, e, rfl⟩
theorem ad_ (h : List Row) (v : Value) : ∃ n, resolve h n (.val v) = some (.val v) := ⟨1, rfl⟩
theorem cC_ {t : Nat → AV} {h : List Row} (a : Nat) (n : Option Nat) (K : AV → List Row → Prop) : cu_ [.cell a n] K .ret t h = match ai_ t h (.load n (.tmp a)) with | some av => K av h | none => False := by
 simp only [cu_, c6_, mapM_cons, mapM_nil]
 cases ai_ t h (.load n (.tmp a)) <;> simp [cr_]
theorem hc_ {h : List Row} {n : Nat} : ∀ {cs : List AV}, cs.all AV.flat = true → cs.mapM (resolve h (n + 1)) = some cs
 | [], _ => rfl
 | c :: cs, hc => by
  simp only [all_cons, Bool.and_eq_true] at hc
  have h1 : resolve h (n + 1) c = some c := by
   cases c <;> first | rfl | simp [AV.flat] at hc
  rw [mapM_cons, h1, hc_ hc.2]
  rfl
theorem hW_ {h : List Row} {n : Nat} : ∀ {es : List (List AV)}, (∀ e ∈ es, e.all AV.flat = true) → (es.mapM fun (e : List AV) => e.mapM (resolve h (n + 1))) = some es
 | [], _ => rfl
 | e :: es, hc => by
  rw [mapM_cons, hc_ (hc e (by simp)), hW_ (fun x hx => hc x (by simp [hx]))]
  rfl
theorem eL_ (h : List Row) (cs : List AV) (hc : cs.all AV.flat = true) : ∃ n, resolve h n (.agg cs) = some (.agg cs) :=
 ⟨2, by show (cs.mapM (resolve h 1)).map AV.agg = _; rw [hc_ hc]; rfl⟩
theorem hw_ {h : List Row} {l k : Nat} {r : Row} (h1 : h[l]? = some r) (h2 : r.es.length = k) (h3 : ∀ e ∈ r.es, e.all AV.flat = true) : ∃ n, resolve h n (.own l k) = some (.list 0 r.sz r.es) :=
 ⟨2, by
  have e : resolve h 2 (.own l k) = match h[l]? with
   | some r => if r.es.length = k then (r.es.mapM fun (e : List AV) => e.mapM (resolve h 1)).map (.list 0 r.sz) else none
   | none => none := rfl
  rw [e, h1]
  simp only [h2, if_true]
  rw [hW_ h3]
  rfl⟩
theorem ag_ {h : List Row} {a b : Bool} (e : a = b) : ∃ n, resolve h n (.val (.bool a)) = some (.val (.bool b)) := by subst e; exact ⟨1, rfl⟩
theorem au_ {h : List Row} {k : IntKind} {a b : Int} (e : a = b) : ∃ n, resolve h n (.val (.int k a)) = some (.val (.int k b)) := by subst e; exact ⟨1, rfl⟩
theorem aG_ {h : List Row} {a b : ByteArray} (e : a = b) : ∃ n, resolve h n (.val (.string a)) = some (.val (.string b)) := by subst e; exact ⟨1, rfl⟩
def by_ {α : Type} (A : List α) (z : α) (k : Nat) : List α := A.take k ++ List.replicate (A.length - k) z
theorem eS_ {α : Type} (A : List α) (z : α) {k : Nat} (h : k ≤ A.length) : (by_ A z k).length = A.length := by
 simp [by_]; omega
theorem fR_ {α : Type} (A : List α) (z : α) : by_ A z 0 = List.replicate A.length z := by simp [by_]
theorem gk_ {α : Type} (A : List α) (z : α) {k : Nat} (h : A.length ≤ k) : by_ A z k = A := by
 simp [by_, take_of_length_le h, Nat.sub_eq_zero_of_le h]
theorem gn_ {α : Type} (A : List α) (z : α) {k : Nat} (h : k < A.length) : (by_ A z k)[k]? = some z := by
 have hl : (A.take k).length = k := by simp; omega
 rw [by_, getElem?_append_right (by omega), hl, Nat.sub_self]
 obtain ⟨m, hm⟩ : ∃ m, A.length - k = m + 1 := ⟨A.length - k - 1, by omega⟩
 rw [hm]; rfl
theorem pC_ {α : Type} (A : List α) (z : α) {k : Nat} (h : k < A.length) : (by_ A z k).set k A[k] = by_ A z (k + 1) := by
 have hl : (A.take k).length = k := by simp; omega
 obtain ⟨m, hm⟩ : ∃ m, A.length - k = m + 1 := ⟨A.length - k - 1, by omega⟩
 have hm' : A.length - (k + 1) = m := by omega
 simp only [by_, hm, hm', replicate_succ]
 rw [set_append_right _ _ (by omega), hl, Nat.sub_self, set_cons_zero, ← take_append_getElem h, append_assoc]
 rfl
theorem fP_ {α : Type} (A : List α) (z v : α) {k : Nat} (h : A[k]? = some v) : (by_ A z k).set k v = by_ A z (k + 1) := by
 obtain ⟨h1, h2⟩ := List.getElem?_eq_some_iff.1 h
 rw [← h2]; exact pC_ A z h1
theorem aa_.call {P : Program} {f : FuncId} {args : List AV} {h : List Row} {r : AV} (c : aa_ P f args h r) {K : AV → List Row → Prop} (hk : K r h) : callSem P f args h K := c K hk
theorem aa_.q {P : Program} {f : FuncId} {args : List AV} {h : List Row} {r : AV} (c : aa_ P f args h r) {K : AV → Prop} (hk : K r) : ∃ r, aa_ P f args h r ∧ K r := ⟨r, c, hk⟩
theorem es_ (h l : List Row) : (h ++ l)[h.length]? = l[0]? := by rw [getElem?_append_right (Nat.le_refl _), Nat.sub_self]
theorem xC_ (h l : List Row) (k : Nat) : (h ++ l)[h.length + k]? = l[k]? := by rw [getElem?_append_right (by omega)]; congr 1; omega
theorem xJ_ (h l : List Row) (v : Row) : (h ++ l).set h.length v = h ++ l.set 0 v := by rw [set_append_right _ _ (Nat.le_refl _), Nat.sub_self]
theorem xL_ (h l : List Row) (k : Nat) (v : Row) : (h ++ l).set (h.length + k) v = h ++ l.set k v := by rw [set_append_right _ _ (by omega)]; congr 2; omega
def wo_ {α : Type} (p : α → α → Bool) : List α → List α → Bool
 | [], [] => true
 | x :: xs, y :: ys => p x y && wo_ p xs ys
 | _, _ => false
def Sit.all (W : World) : Sit := { imm := fun b => match W.heap[b]? with | some (.cells c _ _) => some c | _ => none, rows := [] }
theorem ae_.all (W : World) : ae_ (Sit.all W) [] W := by
 refine ⟨fun b c h => ?_, rfl, by simp [Sit.all], by simp [Sit.all]⟩
 simp only [Sit.all] at h
 split at h
 ·rename_i c' E fr e
  simp at h; subst h
  exact ⟨E, fr, e⟩
 ·simp at h
def Rd (P : Program) (W : World) (t : TypeId) {α : Type} (cells : α → List AV) (wf : α → Prop) : Prop :=
 ∀ (H : Type) (enc : TypeId × Value → H) (fuel : Nat) (cs : List Value) (d : DataW H) (ps : List MemPlace), DataW.trod enc P W 0 (fun _ => true) true fuel t cs = some (d, ps) → ∃ x, wf x ∧ af_ (Sit.all W) (cells x) cs
section
variable {P : Program} {W : World} {t : TypeId}
def go_ (n : Int) : Prop := -9223372036854775808 ≤ n ∧ n ≤ 9223372036854775807
def do_ (s : ByteArray) : Prop := s.size ≤ 9223372036854775807
def eb_ {α : Type} (wf : α → Prop) (xs : List α) : Prop := xs.length ≤ 9223372036854775807 ∧ ∀ x ∈ xs, wf x
theorem wk_ (h : P.underlying t = some (.int .i64)) : Rd P W t (fun n : Int => [.val (.int .i64 n)]) go_ := by
 intro H enc fuel cs d ps hr
 obtain ⟨n, e, _, hw⟩ := DataW.trod_int h hr
 subst e
 refine ⟨n, ?_, by simp [af_, Rep]⟩
 simpa [Lit.wf, IntKind.min, IntKind.max, IntKind.signed, IntKind.bits, go_] using hw
theorem tu_ (h : P.underlying t = some .bool) : Rd P W t (fun b : Bool => [.val (.bool b)]) (fun _ => True) := by
 intro H enc fuel cs d ps hr
 obtain ⟨b, e, _⟩ := DataW.trod_bool h hr
 subst e
 exact ⟨b, trivial, by simp [af_, Rep]⟩
theorem qP_ (h : P.underlying t = some .string) : Rd P W t (fun s : ByteArray => [.val (.string s)]) do_ := by
 intro H enc fuel cs d ps hr
 obtain ⟨s, e, _, hw⟩ := DataW.trod_string h hr
 subst e
 exact ⟨s, by simpa [do_, maxLen] using hw, by simp [af_, Rep]⟩
theorem jB_ {α : Type} {Q : Nat → α → Prop} : ∀ (n : Nat), (∀ i, i < n → ∃ x, Q i x) → ∃ xs : List α, xs.length = n ∧ ∀ i x, xs[i]? = some x → Q i x
 | 0, _ => ⟨[], rfl, by simp⟩
 | n + 1, h => by
  obtain ⟨xs, hl, hx⟩ := jB_ n (fun i hi => h i (by omega))
  obtain ⟨y, hy⟩ := h n (by omega)
  refine ⟨xs ++ [y], by simp [hl], fun i x hi => ?_⟩
  by_cases q : i < xs.length
  ·rw [getElem?_append_left q] at hi; exact hx i x hi
  ·rw [getElem?_append_right (by omega)] at hi
   have : i - xs.length = 0 := by
    by_cases z : i - xs.length = 0
    ·exact z
    ·obtain ⟨k, hk⟩ := Nat.exists_eq_succ_of_ne_zero z
     rw [hk] at hi; simp at hi
   rw [this] at hi
   simp at hi; subst hi
   have : i = n := by omega
   subst this; exact hy
theorem px_ {W : World} {a : Addr} : ∀ {n : Nat} {cs : List Value}, ((List.range n).mapM fun i => W.cell? (a.add i)) = some cs → cs.length = n ∧ ∀ j, j < n → W.cell? (a.add j) = cs[j]? := by
 intro n
 induction n with
 | zero => intro cs h; simp at h; subst h; simp
 | succ n ih =>
  intro cs h
  rw [range_succ, mapM_append] at h
  cases h1 : ((List.range n).mapM fun i => W.cell? (a.add i)) with
  | none => simp [h1] at h
  | some c1 =>
   cases h2 : W.cell? (a.add n) with
   | none => simp [h1, h2] at h
   | some v =>
    simp [h1, h2] at h
    subst h
    obtain ⟨e1, e2⟩ := ih h1
    refine ⟨by simp [e1], fun j hj => ?_⟩
    by_cases q : j < n
    ·rw [getElem?_append_left (by omega)]; exact e2 j q
    ·have : j = n := by omega
     subst this
     rw [getElem?_append_right (by omega), e1]
     simpa using h2
theorem jS_ {e : TypeId} {i : TypeInfo} {α : Type} {cells : α → List AV} {wf : α → Prop} {sz : Nat} (h : P.underlying t = some (.slice e)) (hi : P.info? e = some i) (hsz : i.size = sz) (hpos : 0 < sz) (hc : ∀ x, (cells x).length = sz) (he : Rd P W e cells wf) :
 Rd P W t (fun xs : List α => [.list 0 sz (xs.map cells)]) (eb_ wf) := by
 intro H enc fuel cs d ps hr
 have hcell : P.cellsOf e = sz := by simp [Program.cellsOf, hi, hsz]
 rcases DataW.trod_slice h hr with ⟨e1, _⟩ | ⟨a, len, cap, elems, rest, n, _, e1, _, _, hlc, hcm, hel, hall, _⟩
 ·subst e1
  exact ⟨[], ⟨by simp, by simp⟩, by simp [af_, Rep]⟩
 ·subst e1
  rw [hcell] at hall
  have hlen : len ≤ 9223372036854775807 := by
   have : maxLen = 9223372036854775807 := rfl
   omega
  cases Nat.eq_zero_or_pos len with
  | inl h0 =>
   subst h0
   exact ⟨[], ⟨by simp, by simp⟩, by simp [af_, Rep]⟩
  | inr h0 =>
   have hel' : ∀ k, k < len → ∃ x, wf x ∧ ∃ ck : List Value, ck.length = sz ∧ (∀ j, j < sz → W.cell? ((a.add (k * sz)).add j) = ck[j]?) ∧ af_ (Sit.all W) (cells x) ck := by
    intro k hk
    have hk' := hall k hk
    have : k < elems.length := by omega
    rw [getElem?_eq_getElem this] at hk'
    simp only [Option.bind_eq_some_iff] at hk'
    obtain ⟨ck, q1, q2⟩ := hk'
    simp only [World.cells?, Nat.zero_le, if_true] at q1
    obtain ⟨m1, m2⟩ := px_ q1
    obtain ⟨x, hx1, hx2⟩ := he H enc n ck _ _ q2
    exact ⟨x, hx1, ck, m1, m2, hx2⟩
   have hspot : a.spot = none ∧ ∃ c, (Sit.all W).imm a.block = some c := by
    obtain ⟨x, _, ck, m1, m2, hx⟩ := hel' 0 h0
    have h00 := m2 0 hpos
    have hck : ck[0]? ≠ none := by
     have : 0 < ck.length := by omega
     rw [getElem?_eq_getElem this]; simp
    have ha : (a.add (0 * sz)).add 0 = a := by simp [Addr.add]
    rw [ha] at h00
    simp only [World.cell?] at h00
    cases hb : W.heap[a.block]? with
    | none => rw [hb] at h00; exact absurd h00.symm hck
    | some o =>
     rw [hb] at h00
     cases o with
     | cells c E fr =>
      simp only at h00
      split at h00
      ·exact absurd h00.symm hck
      ·rename_i hs
       exact ⟨by simpa using hs, c, by simp [Sit.all, hb]⟩
     | _ => exact absurd h00.symm hck
   obtain ⟨hs, c, hbc⟩ := hspot
   obtain ⟨b, off, sp⟩ := a
   simp only at hs hbc
   subst hs
   have hcellc : ∀ q, W.cell? ⟨b, q, none⟩ = c[q]? := by
    intro q
    simp only [Sit.all] at hbc
    split at hbc
    ·rename_i c' E fr hb
     simp at hbc; subst hbc
     simp [World.cell?, hb]
    ·simp at hbc
   obtain ⟨xs, hxl, hxs⟩ := jB_ len (Q := fun k x => wf x ∧ ∃ ck : List Value, ck.length = sz ∧ (∀ j, j < sz → W.cell? (((⟨b, off, none⟩ : Addr).add (k * sz)).add j) = ck[j]?) ∧ af_ (Sit.all W) (cells x) ck) hel'
   refine ⟨xs, ⟨by omega, fun x hx => ?_⟩, ?_⟩
   ·obtain ⟨k, hk⟩ := mem_iff_getElem?.1 hx
    exact (hxs k x hk).1
   ·simp only [af_]
    refine ⟨_, _, rfl, ?_, rfl⟩
    have hu : ∀ d ∈ xs.map cells, d.length = sz := by
     intro d hd
     obtain ⟨x, _, q⟩ := mem_map.1 hd
     subst q; exact hc x
    have hLL : am_ (Sit.all W) (xs.map cells) (c.toList.drop off) := by
     refine (bz_ hu).2 fun k d hd j cc hcj => ?_
     rw [getElem?_map, Option.map_eq_some_iff] at hd
     obtain ⟨x, hx, q⟩ := hd
     subst q
     obtain ⟨_, ck, m1, m2, hx2⟩ := hxs k x hx
     obtain ⟨v, hv, r⟩ := af_.get hx2 hcj
     refine ⟨v, ?_, r⟩
     have hj : j < sz := by
      rcases List.getElem?_eq_some_iff.1 hcj with ⟨q, _⟩
      rw [hc x] at q; exact q
     have := m2 j hj
     rw [bY_, bY_, hcellc, hv] at this
     rw [getElem?_drop, Array.getElem?_toList, ← this]
     congr 1; omega
    simp only [Rep]
    right
    refine ⟨b, off, cap, c, by simp [hxl], by simp [hxl]; exact hlc, hbc, hu, .inl trivial, ?_, hLL⟩
    have hlast := (bz_ hu).1 hLL (len - 1) (cells (xs[len - 1]'(by omega))) (by rw [getElem?_map, getElem?_eq_getElem (by omega)]; rfl) (sz - 1)
    have hcl := hc (xs[len - 1]'(by omega))
    obtain ⟨v, hv, _⟩ := hlast ((cells (xs[len - 1]'(by omega)))[sz - 1]'(by omega)) (getElem?_eq_getElem (by omega))
    rcases List.getElem?_eq_some_iff.1 hv with ⟨q, _⟩
    simp only [length_drop, Array.length_toList] at q
    simp only [length_map, hxl]
    obtain ⟨m, hm⟩ : ∃ m, len = m + 1 := ⟨len - 1, by omega⟩
    subst hm
    simp only [Nat.add_sub_cancel] at q
    rw [Nat.add_mul]; omega
theorem bB_ {S : Sit} {A B : List AV} {cs : List Value} {o : Nat} (h1 : af_ S A ((cs.drop o).take A.length)) (h2 : af_ S B (cs.drop (o + A.length))) : af_ S (A ++ B) (cs.drop o) := by
 have app : ∀ {A B : List AV} {X Y : List Value}, af_ S A X → af_ S B Y → af_ S (A ++ B) (X ++ Y) := by
  intro A
  induction A with
  | nil => intro B X Y h1 h2; simp [af_] at h1; subst h1; simpa using h2
  | cons a A ih =>
   intro B X Y h1 h2
   simp only [af_] at h1
   obtain ⟨v, r, e, g1, g2⟩ := h1
   subst e
   simp only [cons_append, af_]
   exact ⟨v, _, rfl, g1, ih g2 h2⟩
 have := app h1 h2
 rw [← drop_drop, take_append_drop] at this
 exact this
theorem bZ_ {H : Type} {enc : TypeId × Value → H} {fs : Array Field} {n k off sz : Nat} {f : Field} {cs : List Value} {xs : List (DataW H × List MemPlace)} {α : Type} {cells : α → List AV} {wf : α → Prop}
 (hall : ∀ (i : Nat) (f : Field), fs[i]? = some f → DataW.trod enc P W 0 (fun _ => true) true n f.type ((cs.drop f.offset).take (P.cellsOf f.type)) = xs[i]?) (hx : xs.length = fs.size)
 (hf : fs[k]? = some f) (ho : f.offset = off) (hs : P.cellsOf f.type = sz) (hr : Rd P W f.type cells wf) : ∃ x, wf x ∧ af_ (Sit.all W) (cells x) ((cs.drop off).take sz) := by
 have hk : k < xs.length := by
  rw [hx]; rcases Array.getElem?_eq_some_iff.1 hf with ⟨q, _⟩; exact q
 have := hall k f hf
 rw [getElem?_eq_getElem hk, ho, hs] at this
 exact hr H enc n _ _ _ this
theorem tn_ {H : Type} {enc : TypeId × Value → H} {α : Type} {cells : α → List AV} {wf : α → Prop} {v : Value} {d : DataW H} {ps : List MemPlace} (f : α → AV) (hf : ∀ x, cells x = [f x]) (hr : Rd P W t cells wf) (hv : v.oneCell' = true)
 (h : DataW.Trod enc P W 0 (fun _ => true) true t v d ps) : ∃ x, wf x ∧ Rep (Sit.all W) (f x) v := by
 obtain ⟨fuel, h⟩ := h
 obtain ⟨x, h1, h2⟩ := hr H enc fuel _ _ _ h
 have hc : v.cells.toList = [v] := by cases v <;> first | rfl | simp [Value.oneCell'] at hv
 rw [hc, hf x] at h2
 simp only [af_] at h2
 obtain ⟨u, r, e, h3, _⟩ := h2
 simp at e
 rw [e.1]
 exact ⟨x, h1, h3⟩
theorem th_ {H : Type} {enc : TypeId × Value → H} {α : Type} {cells : α → List AV} {wf : α → Prop} {vs : Array Value} {d : DataW H} {ps : List MemPlace} (hr : Rd P W t cells wf)
 (h : DataW.Trod enc P W 0 (fun _ => true) true t (.agg vs) d ps) : ∃ x, wf x ∧ Rep (Sit.all W) (.agg (cells x)) (.agg vs) := by
 obtain ⟨fuel, h⟩ := h
 obtain ⟨x, h1, h2⟩ := hr H enc fuel _ _ _ h
 exact ⟨x, h1, by simp only [Rep]; exact ⟨vs, rfl, h2⟩⟩
theorem qB_ {P : Program} {W : World} {f : FuncId} {args : List AV} {vals : Array Value} (hc : ∀ h, aa_ P f args h (.val (.bool true))) (hgl : cY_ P (Sit.all W)) (hr : af_ (Sit.all W) args vals.toList) :
 Calls P f vals W fun e W' => e = .returned (.bool true) ∧ Below W.heap.size W W' := by
 refine (hc [] (fun r h' => r = .val (.bool true)) rfl (Sit.all W) W vals (ae_.all W) hgl hr).mono ?_
 rintro e w' ⟨v, av, S', h', rfl, st, _, rv, rfl⟩
 simp only [Rep] at rv
 subst rv
 refine ⟨rfl, st.os, st.tape, st.output, st.size, fun k hk => st.block k hk ?_⟩
 rintro ⟨l, i, q, _⟩
 simp [Sit.all] at q
end
abbrev eh_ (n : Int) : List AV := [.val (.int .i64 n)]
abbrev gi_ (b : Bool) : List AV := [.val (.bool b)]
abbrev ax_ (s : ByteArray) : List AV := [.val (.string s)]
abbrev fO_ {α : Type} (n : Nat) (f : α → List AV) (xs : List α) : List AV := [.list 0 n (xs.map f)]
def szR (n : Nat) (l : Int) : Int := if (n : Int) ≤ l then l - n else -1
theorem cv_ {n : Nat} {l : Int} (h : (n : Int) ≤ l) : szR n l = l - n := if_pos h
theorem bH_ {n : Nat} {l : Int} (h : l < (n : Int)) : szR n l = -1 := if_neg (by omega)
theorem gu_ {n m : Nat} {l : Int} (h : (n : Int) ≤ l) : szR (n + m) l = szR m (l - n) := by
 unfold szR
 by_cases q : ((n + m : Nat) : Int) ≤ l
 ·rw [if_pos q, if_pos (by omega)]; omega
 ·rw [if_neg q, if_neg (by omega)]
def cq_ {α : Type} (f : α → Nat) : List α → Nat
 | [] => 0
 | x :: xs => f x + cq_ f xs
def ar_ {α : Type} (f : α → Nat) (xs : List α) : Nat := xs.length + cq_ f xs
theorem if_ {α : Type} (f : α → Nat) (xs : List α) (k : Nat) (hk : k < xs.length) : cq_ f (xs.drop k) = f xs[k] + cq_ f (xs.drop (k + 1)) := by
 rw [drop_eq_getElem_cons hk]; rfl
theorem lI_ {α : Type} (f : α → Nat) : ∀ (xs : List α) (x : α), x ∈ xs → f x ≤ cq_ f xs
 | y :: ys, x, h => by
  simp only [cq_]
  rcases mem_cons.1 h with e | e
  ·subst e; omega
  ·have := lI_ f ys x e; omega
theorem dg_ {α : Type} {f : α → Nat} {xs : List α} {x : α} (h : x ∈ xs) : f x + 1 ≤ ar_ f xs := by
 have := lI_ f xs x h
 have : 0 < xs.length := length_pos_of_mem h
 simp only [ar_]; omega
theorem bT_ {α : Type} {f : α → Nat} {xs : List α} : xs.length ≤ ar_ f xs := by simp only [ar_]; omega
theorem lt_ {P : Program} {t : TypeId} {n : Nat} (h : (P.info? t).map (·.size) = some n) : ∃ i, P.info? t = some i ∧ i.size = n := by
 simpa [Option.map_eq_some_iff] using h
def b3_ (P : Program) (t j : Nat) : Option (Nat × Nat × Nat) :=
 match P.underlying t with
 | some (.struct fs) => fs[j]?.map fun f => (f.offset, f.type, P.cellsOf f.type)
 | _ => none
theorem a1_ {P : Program} {t j o ft n : Nat} (h : b3_ P t j = some (o, ft, n)) : ∃ fs f, P.underlying t = some (.struct fs) ∧ fs[j]? = some f ∧ f.offset = o ∧ f.type = ft ∧ P.cellsOf ft = n := by
 unfold b3_ at h
 split at h
 ·rename_i fs hu
  simp only [Option.map_eq_some_iff, Prod.mk.injEq] at h
  obtain ⟨f, h1, h2, h3, h4⟩ := h
  exact ⟨fs, f, hu, h1, h2, h3, by rw [← h3]; exact h4⟩
 ·simp at h
theorem lF_ {S : Sit} {a : AV} {as : List AV} {v : Value} {vs : List Value} (h1 : Rep S a v) (h2 : af_ S as vs) : af_ S (a :: as) (v :: vs) := by
 simp only [af_]; exact ⟨v, vs, rfl, h1, h2⟩
theorem gT_ (S : Sit) {vs : List Value} (h : vs = []) : af_ S [] vs := by simp [af_, h]
theorem l1_ {α : Type} {f : α → Nat} {xs : List α} {b : Nat} (h : ar_ f xs ≤ b) {x : α} (hx : x ∈ xs) : f x ≤ b :=
 Nat.le_trans (Nat.le_of_succ_le (dg_ (f := f) hx)) h
theorem bq_ {α : Type} {f : α → Nat} {xs : List α} {b : Nat} (h : ar_ f xs ≤ b) : xs.length ≤ b := Nat.le_trans bT_ h
attribute [go_sem] xd_ rK_ wd_ uY_ tI_ q9_ tR_ qj_
attribute [go_sem] ml_ kX_ m3_ mj_
attribute [go_sem] t6_ sh_ tH_ qr_ vc_ aZ_ qWp ai_
attribute [go_sem] ak_ r0_ sm_ tx_ b1_ cellsOf cb_ AV.cell
attribute [go_sem] Value.oneCell' te_ k3_ nS_ m2_ tB_ uj_
attribute [go_sem] tM_ rB_ mn_ nl_ kG_ m4_ lh_ or_
attribute [go_sem] qG_ qv_ qF_ eO_ tX_ tc_ ty_ tz_
attribute [go_sem] ta_ to_ tF_ t1_ rH_ rd_ nD_ rM_
attribute [go_sem] mW_ vq_ getD_cons_zero getD_cons_succ length_map getElem?_map getElem?_cons_zero getElem?_cons_succ
attribute [go_sem] drop_zero drop_succ_cons take_succ_cons take_zero List.length_cons List.length_nil all_cons all_nil
attribute [go_sem] map_cons map_nil append_nil nil_append cons_append set_cons_zero set_cons_succ Bool.and_true
attribute [go_sem] Bool.true_and Bool.not_true Bool.not_false Option.map_some if_false if_true Int.toNat_natCast Int.natCast_nonneg
attribute [go_sem] Int.toNat_zero Int.ofNat_lt true_and and_true decide_eq_true_eq decide_eq_false_iff_not decide_true decide_false
attribute [go_sem] Bool.not_eq_true Nat.add_zero Nat.zero_add Bool.true_eq_false Bool.false_eq_true false_implies true_implies implies_true
attribute [go_sem] forall_const ge_iff_le gt_iff_lt Bool.not_not beq_self_eq_true Nat.le_refl eq_self_iff_true eq_self
attribute [go_sem] not_true_eq_false not_false_eq_true Value.cells ne_eq size_toArray toList_toArray Option.some.injEq append_assoc
attribute [go_sem] and_self mapM_nil mapM_cons Option.pure_def Option.bind_eq_bind Option.bind_some List.length_append replicate_zero
attribute [go_sem] Int.natCast_zero Tag.ofNat_eq Tag.ty.injEq Tag.full.injEq Tag.isFull_ty Tag.isFull_full Tag.isFull_byt Tag.isByt_ty Tag.isByt_full Tag.byt.injEq
attribute [go_sem] tA_ ti_ rq_ oc_ nb_
attribute [go_sem] cC_ nM_ es_ xC_ xJ_ xL_
attribute [go_sem] rA_ qV_ rv_ qQ_ beq_true beq_false
def z0z : Value := .agg #[.int .i64 0, .slice none 0 0, .slice none 0 0, .int .i64 0, .int .i64 0, .int .i64 0, .int .i64 0]
def z1z : Value := .agg #[.int .i64 0, .slice none 0 0, .slice none 0 0]
attribute [go_sem] LI.m LI.s LI.z LI.g LI.ki LI.ln LI.ld LI.fa LI.ia LI.ex LI.ll LI.nt LI.nc LI.st LI.bb LI.bk LI.pt LI.pf LI.c1 LI.c2 LI.c3 LI.ap LI.f LI.t LI.bx LI.nl LI.gm LI.gn LI.gl LI.gf LI.gu LI.gc LC.k LC.o LC.q1 LC.q2 z0z z1z
theorem a2_ {α : Type} [_root_.LT α] {a b : α} [Decidable (a < b)] (h : decide (a < b) = true) : a < b := of_decide_eq_true h
theorem a4_ {α : Type} [_root_.LE α] {a b : α} [Decidable (a ≤ b)] (h : decide (a ≤ b) = true) : a ≤ b := of_decide_eq_true h
theorem a5_ {α : Type} [_root_.LT α] {a b : α} [Decidable (a < b)] (h : decide (a < b) = false) : ¬ (a < b) := of_decide_eq_false h
theorem a3_ {α : Type} [_root_.LE α] {a b : α} [Decidable (a ≤ b)] (h : decide (a ≤ b) = false) : ¬ (a ≤ b) := of_decide_eq_false h
theorem ls_ {α : Type} {as : List α} {i : Nat} {a : α} : (as.set i a).length = as.length := List.length_set
theorem la_ {α : Type} {as bs : List α} : (as ++ bs).length = as.length + bs.length := List.length_append
theorem lc_ {α : Type} {a : α} {as : List α} : (a :: as).length = as.length + 1 := List.length_cons
theorem ln_ {α : Type} : ([] : List α).length = 0 := List.length_nil
end Go.AW
