/-
 A small program logic over abstract values, proved sound over the model: what a function's code gives for data, without worlds and cells. Nothing of any one program. No conditions.
-/
import Derived.Test.YtfplhbjggecnpaaGreatDoorAwB
import Derived.Lib.LaidTab
import Derived.Below
import Derived.Sort.Grow
set_option linter.unusedVariables false
set_option linter.unusedSimpArgs false
set_option linter.unusedSectionVars false
namespace Go.AW
open Go.RowKit
open Go.RowKit (Below)
open Go.Sort (Holds putRow grow mapBlock onCells putCells)
section
variable {P : Program} {N : Nat} {Q : d3_} {k : List Fr} {t : Nat → AV} {h : List Row}
structure ExC (P : Program) (N : Nat) (Q : d3_) (v : AV) (a b : LC) (k : List Fr) (t : Nat → AV) (h : List Row) : Prop where
 out : match v with | .val (.bool q) => (q = true → Ex P N Q a k t h) ∧ (q = false → Ex P N Q b k t h) | _ => False
theorem ui_ (c : Operand) (a b : LC) : Ex P N Q (.cond c a b) k t h = ExC P N Q (ax_ t c) a b k t h := by
 rw [ag_]
 exact propext ⟨fun q => ⟨q⟩, fun q => q.out⟩
theorem lE_ (a b : LC) : ExC P N Q (.val (.bool true)) a b k t h = Ex P N Q a k t h :=
 propext ⟨fun q => q.out.1 rfl, fun q => ⟨⟨fun _ => q, fun e => (by cases e)⟩⟩⟩
theorem ks_ (a b : LC) : ExC P N Q (.val (.bool false)) a b k t h = Ex P N Q b k t h :=
 propext ⟨fun q => q.out.2 rfl, fun q => ⟨⟨fun e => (by cases e), fun _ => q⟩⟩⟩
theorem am_ {q : Bool} {a b : LC} (h1 : q = true → Ex P N Q a k t h) (h2 : q = false → Ex P N Q b k t h) : ExC P N Q (.val (.bool q)) a b k t h := ⟨⟨h1, h2⟩⟩
theorem ak_ {q : Bool} {a b : LC} (h1 : q = true → Ex P N Q b k t h) (h2 : q = false → Ex P N Q a k t h) : ExC P N Q (.val (.bool (!q))) a b k t h :=
 ⟨⟨fun e => h2 (by simpa using e), fun e => h1 (by simpa using e)⟩⟩
theorem aC_ {q : Bool} {d : Option Nat} {op : LOp} {l : List LI} (h1 : q = true → ExG P N Q (some true) d op l k t h) (h2 : q = false → ExG P N Q (some false) d op l k t h) : ExG P N Q (some q) d op l k t h := by
 cases q
 ·exact h2 rfl
 ·exact h1 rfl
theorem az_ {q : Bool} {d : Option Nat} {op : LOp} {l : List LI} (h1 : q = true → ExG P N Q (some false) d op l k t h) (h2 : q = false → ExG P N Q (some true) d op l k t h) : ExG P N Q (some (!q)) d op l k t h := by
 cases q
 ·exact h2 rfl
 ·exact h1 rfl
theorem a2_ {q : Bool} {d : Option Nat} {op : LOp} {l : List LI} (e : q = true) (h1 : q = true → ExG P N Q (some true) d op l k t h) : ExG P N Q (some q) d op l k t h := by subst e; exact h1 rfl
theorem a1_ {q : Bool} {d : Option Nat} {op : LOp} {l : List LI} (e : q = false) (h1 : q = false → ExG P N Q (some false) d op l k t h) : ExG P N Q (some q) d op l k t h := by subst e; exact h1 rfl
theorem aQ_ {q : Bool} {d : Option Nat} {op : LOp} {l : List LI} (e : q = true) (h1 : q = true → ExG P N Q (some false) d op l k t h) : ExG P N Q (some (!q)) d op l k t h := by subst e; exact h1 rfl
theorem aR_ {q : Bool} {d : Option Nat} {op : LOp} {l : List LI} (e : q = false) (h1 : q = false → ExG P N Q (some true) d op l k t h) : ExG P N Q (some (!q)) d op l k t h := by subst e; exact h1 rfl
theorem aK_ {q : Bool} {a b : LC} (e : q = true) (h1 : q = true → Ex P N Q a k t h) : ExC P N Q (.val (.bool (q))) a b k t h := by subst e; exact (lE_ a b).symm ▸ h1 rfl
theorem aJ_ {q : Bool} {a b : LC} (e : q = false) (h1 : q = false → Ex P N Q b k t h) : ExC P N Q (.val (.bool (q))) a b k t h := by subst e; exact (ks_ a b).symm ▸ h1 rfl
theorem aF_ {q : Bool} {a b : LC} (e : q = true) (h1 : q = true → Ex P N Q b k t h) : ExC P N Q (.val (.bool (!q))) a b k t h := by subst e; exact (ks_ a b).symm ▸ h1 rfl
theorem aD_ {q : Bool} {a b : LC} (e : q = false) (h1 : q = false → Ex P N Q a k t h) : ExC P N Q (.val (.bool (!q))) a b k t h := by subst e; exact (lE_ a b).symm ▸ h1 rfl
end
def dX_ (s : ByteArray) : List Int := s.data.toList.map fun b => (b.toNat : Int)
theorem c3_ (s : ByteArray) : (dX_ s).length = s.size := by
 unfold dX_; rw [List.length_map, Array.length_toList]; rfl
theorem xF_ {s : ByteArray} {i : Nat} (h : i < s.size) : s[i]? = some s[i] := getElem?_pos s i h
theorem Ad_ {s : ByteArray} {i : Nat} (h : i < s.size) : ((s[i]).toNat : Int) = (dX_ s)[i]'(by rw [c3_]; exact h) := by
 simp only [dX_, List.getElem_map, Array.getElem_toList]; rfl
def bL_ {α : Type} (p : α → Bool) : List α → Nat → Int
 | [], _ => -1
 | x :: xs, k => if p x then (k : Int) else bL_ p xs (k + 1)
theorem gf_ {α : Type} (p : α → Bool) (xs : List α) (k : Nat) (h : k < xs.length) : bL_ p (xs.drop k) k = if p xs[k] then (k : Int) else bL_ p (xs.drop (k + 1)) (k + 1) := by
 rw [List.drop_eq_getElem_cons h]; rfl
theorem d7_ {α : Type} (p : α → Bool) (xs : List α) (k : Nat) (h : xs.length ≤ k) : bL_ p (xs.drop k) k = -1 := by
 rw [List.drop_eq_nil_of_le h]; rfl
theorem j5_ {α : Type} (p : α → Bool) : ∀ (xs : List α) (k : Nat), decide (0 ≤ bL_ p xs k) = xs.any p
 | [], k => rfl
 | x :: xs, k => by
  simp only [bL_, List.any_cons]
  by_cases e : p x = true
  ·simp [e]
  ·simp only [e, Bool.false_eq_true, if_false, Bool.false_or]; exact j5_ p xs (k + 1)
theorem iD_ {α : Type} (p : α → Bool) (xs : List α) : decide (0 ≤ bL_ p xs 0) = xs.any p := j5_ p xs 0
theorem lt_ {α : Type} (p : α → Bool) (xs : List α) (k : Nat) (h : k < xs.length) : (xs.drop k).all p = (p xs[k] && (xs.drop (k + 1)).all p) := by
 rw [List.drop_eq_getElem_cons h]; rfl
theorem hw_ {α : Type} (p : α → Bool) (xs : List α) (k : Nat) (h : xs.length ≤ k) : (xs.drop k).all p = true := by
 rw [List.drop_eq_nil_of_le h]; rfl
theorem DA_ (k : Nat) : ((k : Int) = 0) = (k = 0) := by simp
theorem zP_ (k : Nat) : ((0 : Int) < (k : Int)) = (0 < k) := by simp
theorem rI_ (k : Nat) : ((k : Int) - 1).toNat = k - 1 := by omega
theorem cb_ {h l : List Row} {i : Nat} {r : Row} (e : h[i]? = some r) : (h ++ l)[i]? = some r := by
 have := (List.getElem?_eq_some_iff.1 e).1
 rw [List.getElem?_append_left this, e]
theorem pE_ {k : Nat} (h : 0 < k) : (0 ≤ (k : Int) - 1) = True := by
 apply eq_true; omega
attribute [go_sem] ui_ lE_ ks_ Go.undef br_ ig_ Nat.zero_le xF_ Ad_ DA_ zP_ rI_ an_ pE_
structure ExP (P : Program) (N : Nat) (Q : d3_) (pre todo : List LI) (chain : List (LI × List LI)) (k : List Fr) (t : Nat → AV) (h : List Row) : Prop where
 out : hn_ h todo t fun T => holds T h pre ∧ g7_ P chain T h (exK P N Q k .normal)
structure rz_ (P : Program) (N : Nat) (Q : d3_) (chain : List (LI × List LI)) (k : List Fr) (t : Nat → AV) (h : List Row) : Prop where
 out : g7_ P chain t h (exK P N Q k .normal)
structure AfC (P : Program) (N : Nat) (Q : d3_) (d : Option Nat) (loose : List LI) (chain : List (LI × List LI)) (k : List Fr) (t : Nat → AV) (v : AV) (h : List Row) : Prop where
 out : holds (put t d v) h loose ∧ g7_ P chain (put t d v) h (exK P N Q k .normal)
structure Hol (T : Nat → AV) (h : List Row) (l : List LI) : Prop where
 out : holds T h l
def mV_ (t : Nat → AV) (h : List Row) (K : AV → Prop) (op : LOp) : Prop := match as_ t h op with | some v => K v | none => False
structure AfP (P : Program) (N : Nat) (Q : d3_) (pre : List LI) (d : Option Nat) (todo : List LI) (chain : List (LI × List LI)) (k : List Fr) (t : Nat → AV) (h : List Row) (v : AV) : Prop where
 out : hn_ h todo (put t d v) fun T => holds T h pre ∧ g7_ P chain T h (exK P N Q k .normal)
section
variable {P : Program} {N : Nat} {Q : d3_} {k : List Fr} {t : Nat → AV} {h : List Row}
theorem xM_ (pre : List LI) (chain : List (LI × List LI)) : Ex P N Q (.gops pre chain) k t h = ExP P N Q pre pre chain k t h := propext ⟨fun q => ⟨q.out⟩, fun q => ⟨q.out⟩⟩
theorem xj_ (pre : List LI) (chain : List (LI × List LI)) : ExP P N Q pre [] chain k t h = (Hol t h pre ∧ rz_ P N Q chain k t h) :=
 propext ⟨fun q => ⟨⟨q.out.1⟩, ⟨q.out.2⟩⟩, fun q => ⟨⟨q.1.out, q.2.out⟩⟩⟩
theorem uA_ (pre : List LI) (d : Option Nat) (op : LOp) (r : List LI) (chain : List (LI × List LI)) : ExP P N Q pre (⟨d, none, op⟩ :: r) chain k t h = mV_ t h (AfP P N Q pre d r chain k t h) op := by
 unfold mV_
 cases hv : as_ t h op with
 | none =>
  refine propext ⟨fun q => ?_, fun q => q.elim⟩
  have := q.out
  unfold hn_ at this
  simp only [hv] at this
 | some v =>
  refine propext ⟨fun q => ⟨?_⟩, fun q => ⟨?_⟩⟩
  ·have := q.out
   unfold hn_ at this
   simp only [hv] at this
   exact this
  ·unfold hn_
   simp only [hv]
   exact q.out
theorem Bk_ (pre : List LI) (d : Option Nat) (r : List LI) (chain : List (LI × List LI)) (v : AV) : AfP P N Q pre d r chain k t h v = ExP P N Q pre r chain k (put t d v) h := propext ⟨fun q => ⟨q.out⟩, fun q => ⟨q.out⟩⟩
theorem xg_ : Hol t h [] = True := propext ⟨fun _ => trivial, fun _ => ⟨trivial⟩⟩
theorem uT_ (d : Nat) (op : LOp) (r : List LI) : Hol t h (⟨some d, none, op⟩ :: r) = (mV_ t h (fun v => v = t d) op ∧ Hol t h r) := by
 refine propext ⟨fun q => ?_, fun q => ⟨?_⟩⟩
 ·have := q.out
  unfold holds at this
  refine ⟨?_, ⟨this.2⟩⟩
  unfold mV_
  rw [this.1]
 ·unfold holds
  refine ⟨?_, q.2.out⟩
  have := q.1
  unfold mV_ at this
  simp only
  split at this
  ·rename_i v hv; rw [hv, this]
  ·exact this.elim
theorem tz_ : rz_ P N Q [] k t h = ExK P N Q k .normal t h := propext ⟨fun q => ⟨q.out⟩, fun q => ⟨q.out⟩⟩
theorem xx_ (d : Option Nat) (loose : List LI) (chain : List (LI × List LI)) : AfC P N Q d loose chain k t = fun v h => holds (put t d v) h loose ∧ g7_ P chain (put t d v) h (exK P N Q k .normal) :=
 funext fun _ => funext fun _ => propext ⟨fun q => q.out, fun q => ⟨q⟩⟩
theorem to_ (d : Option Nat) (op : LOp) (loose : List LI) (r : List (LI × List LI)) : rz_ P N Q ((⟨d, none, op⟩, loose) :: r) k t h = ba_ P t h (AfC P N Q d loose r k t) op := by
 rw [xx_]; exact propext ⟨fun q => q.out, fun q => ⟨q⟩⟩
theorem Au_ (d : Option Nat) (loose : List LI) (r : List (LI × List LI)) (v : AV) : AfC P N Q d loose r k t v h = (Hol (put t d v) h loose ∧ rz_ P N Q r k (put t d v) h) :=
 propext ⟨fun q => ⟨⟨q.out.1⟩, ⟨q.out.2⟩⟩, fun q => ⟨⟨q.1.out, q.2.out⟩⟩⟩
end
attribute [go_sem] xM_ xj_ uA_ Bk_ xg_ uT_ tz_ to_ Au_ mV_
theorem al_.below {S : Sit} {h : List Row} {w w' : World} (m : al_ S h w) (b : Below w.heap.size w w') : al_ S h w' := by
 refine ⟨fun k c e => ?_, m.len, fun l i r q1 q2 => ?_, m.one⟩
 ·rw [b.block k (m.immLt e)]; exact m.imm k c e
 ·obtain ⟨k1, k2, k3, k4⟩ := m.rows l i r q1 q2
  refine ⟨k1, k2, k3, ?_⟩
  cases hb : i.blk with
  | none => rw [hb] at k4; exact k4
  | some k =>
   rw [hb] at k4
   exact ⟨k4.1, k4.2.le (.refl S) (b.block k (m.ownLt ⟨l, i, q1, hb⟩))⟩
theorem bd_.below {S : Sit} {w w' : World} (b : Below w.heap.size w w') : bd_ S w S w' :=
 ⟨.refl S, b.os, b.tape, b.output, b.size, fun k hk _ => b.block k hk, fun _ q => .inl q, fun _ _ q => .inl q⟩
theorem gn_ {S : Sit} : ∀ {vs xs : List Value}, ap_ S (vs.map AV.val) xs → xs = vs
 | [], xs, r => by simpa [ap_] using r
 | v :: vs, xs, r => by
  simp only [List.map_cons, ap_] at r
  obtain ⟨x, r', e, r1, r2⟩ := r
  simp only [Rep] at r1
  rw [e, r1, gn_ r2]
theorem ho_ {P : Program} {f : FuncId} {vals : List Value} {v : Value}
 (hc : ∀ w, (∀ p ∈ pj_, (P.globalNamed p.1).isSome = true → w.var? P p.1 = some p.2) → Calls P f vals.toArray w fun e w' => e = .returned v ∧ Below w.heap.size w w') (h : List Row) : aa_ P f (vals.map AV.val) h (.val v) := by
 intro K hk S w xs hm hgl hr
 have e := gn_ hr
 have e' : xs = vals.toArray := by cases xs; simp at e; rw [e]
 subst e'
 refine (hc w ?_).mono ?_
 ·intro p hp hs
  obtain ⟨g, hg⟩ := Option.isSome_iff_exists.1 hs
  obtain ⟨E, fr, hw⟩ := hm.imm g p.2 (hgl.1 p hp g hg)
  simp only [World.var?, hg, Option.bind_some, hw]
 ·rintro e w' ⟨rfl, b⟩
  exact ⟨v, .val v, S, h, rfl, bd_.below b, hm.below b, by simp [Rep], hk⟩
theorem p9_ {P : Program} {f : FuncId} {vals : List Value} {v : Value}
 (hc : ∀ w, (∀ g, P.globalNamed "internal/bytealg.MaxLen" = some g → ∃ m, w.cell? ⟨g, 0, none⟩ = some (.int .i64 m)) → Calls P f vals.toArray w fun e w' => e = .returned v ∧ Below w.heap.size w w') (h : List Row) : aa_ P f (vals.map AV.val) h (.val v) := by
 intro K hk S w xs hm hgl hr
 have e := gn_ hr
 have e' : xs = vals.toArray := by cases xs; simp at e; rw [e]
 subst e'
 refine (hc w ?_).mono ?_
 ·intro g hg
  obtain ⟨c, m, h1, h2⟩ := hgl.2 g hg
  obtain ⟨E, fr, hw⟩ := hm.imm g c h1
  exact ⟨m, by simp [World.cell?, hw, h2]⟩
 ·rintro e w' ⟨rfl, b⟩
  exact ⟨v, .val v, S, h, rfl, bd_.below b, hm.below b, by simp [Rep], hk⟩
def aP_ (R : AV → AV → List Nat → Prop) : List AV → List AV → List Nat → Prop
 | [], ds, fs => ds = [] ∧ fs = []
 | c :: cs, ds, fs => ∃ d ds' f f', ds = d :: ds' ∧ fs = f ++ f' ∧ R c d f ∧ aP_ R cs ds' f'
def a0_ (R : AV → AV → List Nat → Prop) : List (List AV) → List (List AV) → List Nat → Prop
 | [], ds, fs => ds = [] ∧ fs = []
 | e :: es, ds, fs => ∃ d ds' f f', ds = d :: ds' ∧ fs = f ++ f' ∧ aP_ R e d f ∧ a0_ R es ds' f'
def Own (H : List Row) : Nat → AV → AV → List Nat → Prop
 | 0, _, _, _ => False
 | n + 1, a, r, fs =>
  match a with
  | .val v => fs = [] ∧ (r = .val v ∨ (v = .slice none 0 0 ∧ ∃ sz, r = .list 0 sz []))
  | .own l k => ∃ row es f, H[l]? = some row ∧ row.es.length = k ∧ a0_ (Own H n) row.es es f ∧ r = .list 0 row.sz es ∧ fs = l :: f
  | .sub l k lo hi => ∃ row es f, H[l]? = some row ∧ row.es.length = k ∧ a0_ (Own H n) row.es es f ∧ r = .list 0 row.sz ((es.take hi).drop lo) ∧ fs = l :: f
  | .agg cs => ∃ ds, aP_ (Own H n) cs ds fs ∧ r = .agg ds
  | .tup cs => ∃ ds, aP_ (Own H n) cs ds fs ∧ r = .tup ds
  | _ => False
theorem aP_.mono {R R' : AV → AV → List Nat → Prop} : ∀ {cs ds : List AV} {fs : List Nat}, (∀ a r f, (∀ l ∈ f, l ∈ fs) → R a r f → R' a r f) → aP_ R cs ds fs → aP_ R' cs ds fs
 | [], _, _, _, h => h
 | c :: cs, ds, fs, hm, h => by
  obtain ⟨d, ds', f, f', e1, e2, h1, h2⟩ := h
  subst e2
  exact ⟨d, ds', f, f', e1, rfl, hm _ _ _ (fun l hl => List.mem_append_left _ hl) h1, aP_.mono (fun a r g hg => hm a r g fun l hl => List.mem_append_right _ (hg l hl)) h2⟩
theorem a0_.mono {R R' : AV → AV → List Nat → Prop} : ∀ {cs ds : List (List AV)} {fs : List Nat}, (∀ a r f, (∀ l ∈ f, l ∈ fs) → R a r f → R' a r f) → a0_ R cs ds fs → a0_ R' cs ds fs
 | [], _, _, _, h => h
 | c :: cs, ds, fs, hm, h => by
  obtain ⟨d, ds', f, f', e1, e2, h1, h2⟩ := h
  subst e2
  exact ⟨d, ds', f, f', e1, rfl, aP_.mono (fun a r g hg => hm a r g fun l hl => List.mem_append_left _ (hg l hl)) h1, a0_.mono (fun a r g hg => hm a r g fun l hl => List.mem_append_right _ (hg l hl)) h2⟩
theorem Own.keep {H H' : List Row} : ∀ {n : Nat} {a r : AV} {fs : List Nat}, (∀ l ∈ fs, H'[l]? = H[l]?) → Own H n a r fs → Own H' n a r fs
 | 0, _, _, _, _, h => h
 | n + 1, a, r, fs, hk, h => by
  cases a with
  | val v => exact h
  | own l k =>
   obtain ⟨row, es, f, h1, h2, h3, h4, h5⟩ := h
   subst h5
   exact ⟨row, es, f, by rw [hk l (by simp)]; exact h1, h2, a0_.mono (fun a r g hg ho => Own.keep (fun l hl => hk l (List.mem_cons_of_mem _ (hg l hl))) ho) h3, h4, rfl⟩
  | sub l k lo hi =>
   obtain ⟨row, es, f, h1, h2, h3, h4, h5⟩ := h
   subst h5
   exact ⟨row, es, f, by rw [hk l (by simp)]; exact h1, h2, a0_.mono (fun a r g hg ho => Own.keep (fun l hl => hk l (List.mem_cons_of_mem _ (hg l hl))) ho) h3, h4, rfl⟩
  | agg cs =>
   obtain ⟨ds, h1, h2⟩ := h
   exact ⟨ds, aP_.mono (fun a r g hg ho => Own.keep (fun l hl => hk l (hg l hl)) ho) h1, h2⟩
  | tup cs =>
   obtain ⟨ds, h1, h2⟩ := h
   exact ⟨ds, aP_.mono (fun a r g hg ho => Own.keep (fun l hl => hk l (hg l hl)) ho) h1, h2⟩
  | _ => exact h.elim
theorem Own.more {H : List Row} : ∀ {n : Nat} {a r : AV} {fs : List Nat}, Own H n a r fs → Own H (n + 1) a r fs
 | 0, _, _, _, h => h.elim
 | n + 1, a, r, fs, h => by
  cases a with
  | val v => exact h
  | own l k =>
   obtain ⟨row, es, f, h1, h2, h3, h4, h5⟩ := h
   exact ⟨row, es, f, h1, h2, a0_.mono (fun a r g _ ho => Own.more ho) h3, h4, h5⟩
  | sub l k lo hi =>
   obtain ⟨row, es, f, h1, h2, h3, h4, h5⟩ := h
   exact ⟨row, es, f, h1, h2, a0_.mono (fun a r g _ ho => Own.more ho) h3, h4, h5⟩
  | agg cs =>
   obtain ⟨ds, h1, h2⟩ := h
   exact ⟨ds, aP_.mono (fun a r g _ ho => Own.more ho) h1, h2⟩
  | tup cs =>
   obtain ⟨ds, h1, h2⟩ := h
   exact ⟨ds, aP_.mono (fun a r g _ ho => Own.more ho) h1, h2⟩
  | _ => exact h.elim
theorem Own.up {H : List Row} {n m : Nat} {a r : AV} {fs : List Nat} (hm : n ≤ m) (h : Own H n a r fs) : Own H m a r fs := by
 induction hm with
 | refl => exact h
 | step _ ih => exact ih.more
theorem aP_.rep {S S' : Sit} {R : AV → AV → List Nat → Prop} (hone : ∀ a x r f, Rep S a x → R a r f → Rep S' r x) : ∀ {as : List AV} {xs : List Value} {rs : List AV} {fs : List Nat}, ap_ S as xs → aP_ R as rs fs → ap_ S' rs xs
 | [], xs, rs, fs, r, h => by
  obtain ⟨h1, _⟩ := h; subst h1
  simpa [ap_] using r
 | a :: as, xs, rs, fs, r, h => by
  obtain ⟨d, ds', f, f', e1, e2, h1, h2⟩ := h
  subst e1
  simp only [ap_] at r ⊢
  obtain ⟨v, q, e, r2, r3⟩ := r
  exact ⟨v, q, e, hone a v d f r2 h1, aP_.rep hone r3 h2⟩
theorem aP_.repPre {S S' : Sit} {R : AV → AV → List Nat → Prop} (hone : ∀ a x r f, Rep S a x → R a r f → Rep S' r x) : ∀ {as : List AV} {xs : List Value} {rs : List AV} {fs : List Nat}, aG_ S as xs → aP_ R as rs fs → aG_ S' rs xs ∧ rs.length = as.length
 | [], xs, rs, fs, r, h => by
  obtain ⟨h1, _⟩ := h; subst h1
  simp [aG_]
 | a :: as, xs, rs, fs, r, h => by
  obtain ⟨d, ds', f, f', e1, e2, h1, h2⟩ := h
  subst e1
  simp only [aG_] at r ⊢
  obtain ⟨v, q, e, r2, r3⟩ := r
  have := aP_.repPre hone r3 h2
  exact ⟨⟨v, q, e, hone a v d f r2 h1, this.1⟩, by simp [this.2]⟩
theorem a0_.rep {S S' : Sit} {R : AV → AV → List Nat → Prop} (hone : ∀ a x r f, Rep S a x → R a r f → Rep S' r x) : ∀ {es : List (List AV)} {xs : List Value} {rs : List (List AV)} {fs : List Nat}, aB_ S es xs → a0_ R es rs fs →
 aB_ S' rs xs ∧ rs.length = es.length ∧ ∀ sz, (∀ e ∈ es, e.length = sz) → ∀ e ∈ rs, e.length = sz
 | [], xs, rs, fs, r, h => by
  obtain ⟨h1, _⟩ := h; subst h1
  simp [aB_]
 | d :: es, xs, rs, fs, r, h => by
  obtain ⟨d', ds', f, f', e1, e2, h1, h2⟩ := h
  subst e1
  simp only [aB_] at r ⊢
  have p1 := aP_.repPre hone r.1 h1
  have p2 := a0_.rep hone r.2 h2
  refine ⟨⟨p1.1, by rw [p1.2]; exact p2.1⟩, by simp [p2.2.1], fun sz hsz e he => ?_⟩
  rcases List.mem_cons.1 he with q | q
  ·subst q; rw [p1.2]; exact hsz d (by simp)
  ·exact p2.2.2 sz (fun e he => hsz e (by simp [he])) e q
theorem a0_.len {R : AV → AV → List Nat → Prop} : ∀ {es rs : List (List AV)} {fs : List Nat}, a0_ R es rs fs → rs.length = es.length
 | [], rs, fs, h => by obtain ⟨h, _⟩ := h; subst h; rfl
 | e :: es, rs, fs, h => by
  obtain ⟨d, ds', f, f', e1, e2, h1, h2⟩ := h
  subst e1
  simp [a0_.len h2]
theorem Own.rep {S : Sit} {h : List Row} {w : World} (m : al_ S h w) : ∀ (n : Nat) (a : AV) (x : Value) (r : AV) (fs : List Nat), Rep S a x → Own h n a r fs → Rep (S.shut w) r x := by
 intro n
 induction n with
 | zero => intro a x r fs _ e; exact e.elim
 | succ n ih =>
  intro a x r fs hr e
  cases a with
  | val v =>
   obtain ⟨_, e | ⟨e1, sz, e2⟩⟩ := e
   ·subst e; simpa [Rep] using hr
   ·subst e1 e2
    simp only [Rep] at hr ⊢
    exact .inl ⟨trivial, trivial, _, _, hr⟩
  | agg cs =>
   obtain ⟨ds, e1, e2⟩ := e
   subst e2
   simp only [Rep] at hr ⊢
   obtain ⟨vs, e3, hr⟩ := hr
   exact ⟨vs, e3, aP_.rep ih hr e1⟩
  | tup cs =>
   obtain ⟨ds, e1, e2⟩ := e
   subst e2
   simp only [Rep] at hr ⊢
   obtain ⟨vs, e3, hr⟩ := hr
   exact ⟨vs, e3, aP_.rep ih hr e1⟩
  | own l k =>
   obtain ⟨row, es, f, hl, hlen, e1, e2, _⟩ := e
   subst e2
   simp only [Rep] at hr
   obtain ⟨_, i, q1, q2, q3⟩ := hr
   obtain ⟨k1, k2, k3, k4⟩ := m.rows l i row q1 hl
   have hx := q3 (by omega)
   cases hb : i.blk with
   | none =>
    rw [hb] at k4
    simp only [sliceAt, hb] at hx
    rw [k4.1] at e1
    obtain ⟨e1, _⟩ := e1; subst e1
    simp only [Rep]
    rcases hx with hx | ⟨_, p, hx⟩
    ·exact .inl ⟨trivial, trivial, _, _, hx⟩
    ·exact .inl ⟨trivial, trivial, _, _, hx⟩
   | some b =>
    rw [hb] at k4
    simp only [sliceAt, hb, reduceCtorEq, false_and, or_false] at hx
    by_cases hne : row.es = []
    ·rw [hne] at e1 k1
     obtain ⟨e1, _⟩ := e1; subst e1
     simp only [Rep]
     rw [k1] at hx
     exact .inl ⟨trivial, trivial, _, _, hx⟩
    obtain ⟨_, c, _, j2, j3, j4, j5, j6⟩ := k4.2.cells (.inl hne)
    have p := a0_.rep ih j3 e1
    simp only [Rep]
    right
    have hown : S.ownsB b = true := dP_.2 ⟨l, i, q1, hb⟩
    refine ⟨b, 0, i.cap, c, by rw [hx, p.2.1, k1], by rw [p.2.1, ← k1]; exact j5, ?_, p.2.2 _ k3, .inl trivial, ?_, by simpa [Sit.shut, Sit.still] using p.1⟩
    ·simp [Sit.shut, hown, j2]
    ·rw [p.2.1, j4, ← k1, ← k2]
     simpa using Nat.mul_le_mul_right _ j5
  | sub l k lo hi =>
   obtain ⟨row, es, f, hl, hlen, e1, e2, _⟩ := e
   subst e2
   simp only [Rep] at hr
   obtain ⟨_, i, q1, q2, q3⟩ := hr
   obtain ⟨k1, k2, k3, k4⟩ := m.rows l i row q1 hl
   obtain ⟨g1, g2, g3⟩ := q3 (by omega)
   have hesl : es.length = row.es.length := a0_.len e1
   have hlen2 : ((es.take hi).drop lo).length = hi - lo := by simp; omega
   by_cases hz : hi - lo = 0
   ·have hnil : (es.take hi).drop lo = [] := List.eq_nil_of_length_eq_zero (by omega)
    rw [hnil]
    simp only [Rep]
    rcases g3 with ⟨_, p, q⟩ | ⟨b, off, _, q, _⟩
    ·exact .inl ⟨trivial, trivial, _, _, q⟩
    ·rw [hz] at q; exact .inl ⟨trivial, trivial, _, _, q⟩
   ·have hne : row.es ≠ [] := by intro q; rw [q] at hlen; simp at hlen; omega
    rcases g3 with ⟨hb, p, q⟩ | ⟨b, off, hb, q, hoff⟩
    ·rw [hb] at k4; exact absurd k4.1 hne
    ·rw [hb] at k4
     obtain ⟨_, c, _, j2, j3, j4, j5, j6⟩ := k4.2.cells (.inl hne)
     rw [hoff (by omega)] at q
     have p := a0_.rep ih j3 e1
     have p3 := p.2.2 _ k3
     have hd := aB_.drop (aB_.take (k := hi) p.1) (sz := row.sz) (k := lo) (fun x hx => p3 x (List.mem_of_mem_take hx))
     simp only [Rep]
     right
     have hown : S.ownsB b = true := dP_.2 ⟨l, i, q1, hb⟩
     refine ⟨b, lo * i.sz, i.cap - lo, c, by rw [q, hlen2], by rw [hlen2]; omega, ?_, fun x hx => p3 x (List.mem_of_mem_take (List.mem_of_mem_drop hx)), .inl trivial, ?_, ?_⟩
     ·simp [Sit.shut, hown, j2]
     ·rw [hlen2, j4, ← k2, ← Nat.add_mul]
      exact Nat.mul_le_mul_right _ (by omega)
     ·rw [k2]; simpa [Sit.shut, Sit.still] using hd
  | _ => exact e.elim
def cT_ (H : List Row) (a r : AV) : Prop := (a = r ∧ a.plain = true) ∨ ∃ n fs, Own H n a r fs
def ca_ (H : List Row) : List AV → List AV → Prop
 | [], rs => rs = []
 | a :: as, rs => ∃ r rs', rs = r :: rs' ∧ cT_ H a r ∧ ca_ H as rs'
theorem ca_.rep {S : Sit} {H : List Row} {w : World} (m : al_ S H w) : ∀ {as rs : List AV} {xs : List Value}, ca_ H as rs → ap_ S as xs → ap_ (S.shut w) rs xs
 | [], rs, xs, h, r => by subst h; simpa [ap_] using r
 | a :: as, rs, xs, h, r => by
  obtain ⟨d, ds, e, h1, h2⟩ := h
  subst e
  simp only [ap_] at r ⊢
  obtain ⟨v, q, e, r1, r2⟩ := r
  refine ⟨v, q, e, ?_, ca_.rep m h2 r2⟩
  rcases h1 with ⟨h1, hp⟩ | ⟨n, fs, h1⟩
  ·subst h1; exact Rep.up (hv_ m) _ _ (iH_ hp r1)
  ·exact Own.rep m n a v d fs r1 h1
theorem al_.shut {S : Sit} {H : List Row} {w : World} (m : al_ S H w) : ∀ b c, (S.shut w).imm b = some c → ∃ E fr, w.heap[b]? = some (.cells c E fr) := by
 intro b c q
 simp only [Sit.shut] at q
 split at q
 ·split at q
  ·rename_i c' E fr hb
   simp at q; subst q
   exact ⟨E, fr, hb⟩
  ·simp at q
 ·exact m.imm b c q
theorem dy_.shut {P : Program} {S : Sit} {H : List Row} {w : World} (m : al_ S H w) (g : dy_ P S) : dy_ P (S.shut w) := dy_.up (hv_ m) (show dy_ P S.still from g)
theorem pw_ {P : Program} {f : FuncId} {as rs : List AV} {H : List Row} {v : Value} (hc : ∀ h, aa_ P f rs h (.val v)) (ha : ca_ H as rs) {K : AV → List Row → Prop} (hk : K (.val v) H) : callSem P f as H K := by
 intro S w vals hm hgl hr
 have hm0 : al_ (S.shut w) [] w := ⟨hm.shut, rfl, by simp [Sit.shut], by simp [Sit.shut]⟩
 refine (hc [] (fun r _ => r = .val v) rfl (S.shut w) w vals hm0 (hgl.shut hm) (ha.rep hm hr)).mono ?_
 rintro e w' ⟨v', av, S1, h1, rfl, st, hm1, rv, rfl⟩
 simp only [Rep] at rv
 subst rv
 have b : Below w.heap.size w w' := ⟨st.os, st.tape, st.output, st.size, fun k hk => st.block k hk (by rintro ⟨l, i, q, _⟩; simp [Sit.shut] at q)⟩
 exact ⟨v', .val v', S, H, rfl, bd_.below b, hm.below b, by simp [Rep], hk⟩
theorem uG_ {S : Sit} {H : List Row} {w : World} (m : al_ S H w) {n : Nat} : ∀ {as rs : List AV} {xs : List Value}, as.mapM (resolve H n) = some rs → ap_ S as xs → ap_ (S.shut w) rs xs :=
 fun h r => eb_ (fun a x r' h1 h2 => iJ_ m n a x r' h1 h2) r h
theorem frozen {P : Program} {f : FuncId} {as rs : List AV} {H : List Row} {v : Value} {n : Nat} (hc : ∀ h, aa_ P f rs h (.val v)) (ha : as.mapM (resolve H n) = some rs) : aa_ P f as H (.val v) := by
 intro K hk S w vals hm hgl hr
 have hm0 : al_ (S.shut w) [] w := ⟨hm.shut, rfl, by simp [Sit.shut], by simp [Sit.shut]⟩
 refine (hc [] (fun r _ => r = .val v) rfl (S.shut w) w vals hm0 (hgl.shut hm) (uG_ hm ha hr)).mono ?_
 rintro e w' ⟨v', av, S1, h1, rfl, st, hm1, rv, rfl⟩
 simp only [Rep] at rv
 subst rv
 have b : Below w.heap.size w w' := ⟨st.os, st.tape, st.output, st.size, fun k hk => st.block k hk (by rintro ⟨l, i, q, _⟩; simp [Sit.shut] at q)⟩
 exact ⟨v', .val v', S, H, rfl, bd_.below b, hm.below b, by simp [Rep], hk⟩
theorem pp_ {H : List Row} {n : Nat} {a r : AV} (h : resolve H n a = some r) : [a].mapM (resolve H n) = some [r] := by
 rw [List.mapM_cons, h]; rfl
structure fb_ (base : Nat) (H : List Row) (a r : AV) : Prop where
 out : ∃ n fs, Own H n a r fs ∧ fs.Nodup ∧ ∀ l ∈ fs, base ≤ l
def aS_ (P : Program) (f : FuncId) (args : List AV) (r : AV) (Q : AV → Prop) : Prop :=
 ∀ (h : List Row) (K : AV → List Row → Prop), (∀ av hn, fb_ h.length (h ++ hn) av r → Q av → K av (h ++ hn)) → callSem P f args h K
theorem aP_.inner {H : List Row} {R : AV → AV → List Nat → Prop} (hone : ∀ a r f, R a r f → ∀ l ∈ f, ∃ row m es g, H[l]? = some row ∧ a0_ (Own H m) row.es es g ∧ ∀ x ∈ g, x ∈ f) : ∀ {as rs : List AV} {fs : List Nat}, aP_ R as rs fs → ∀ l ∈ fs, ∃ row m es g, H[l]? = some row ∧ a0_ (Own H m) row.es es g ∧ ∀ x ∈ g, x ∈ fs
 | [], rs, fs, h, l, hl => by obtain ⟨_, h⟩ := h; subst h; simp at hl
 | a :: as, rs, fs, h, l, hl => by
  obtain ⟨d, ds', f, f', e1, e2, h1, h2⟩ := h
  subst e2
  rcases List.mem_append.1 hl with q | q
  ·obtain ⟨row, m, es, g, q1, q2, q3⟩ := hone a d f h1 l q
   exact ⟨row, m, es, g, q1, q2, fun x hx => List.mem_append_left _ (q3 x hx)⟩
  ·obtain ⟨row, m, es, g, q1, q2, q3⟩ := aP_.inner hone h2 l q
   exact ⟨row, m, es, g, q1, q2, fun x hx => List.mem_append_right _ (q3 x hx)⟩
theorem a0_.inner {H : List Row} {R : AV → AV → List Nat → Prop} (hone : ∀ a r f, R a r f → ∀ l ∈ f, ∃ row m es g, H[l]? = some row ∧ a0_ (Own H m) row.es es g ∧ ∀ x ∈ g, x ∈ f) : ∀ {as rs : List (List AV)} {fs : List Nat}, a0_ R as rs fs → ∀ l ∈ fs, ∃ row m es g, H[l]? = some row ∧ a0_ (Own H m) row.es es g ∧ ∀ x ∈ g, x ∈ fs
 | [], rs, fs, h, l, hl => by obtain ⟨_, h⟩ := h; subst h; simp at hl
 | a :: as, rs, fs, h, l, hl => by
  obtain ⟨d, ds', f, f', e1, e2, h1, h2⟩ := h
  subst e2
  rcases List.mem_append.1 hl with q | q
  ·obtain ⟨row, m, es, g, q1, q2, q3⟩ := aP_.inner hone h1 l q
   exact ⟨row, m, es, g, q1, q2, fun x hx => List.mem_append_left _ (q3 x hx)⟩
  ·obtain ⟨row, m, es, g, q1, q2, q3⟩ := a0_.inner hone h2 l q
   exact ⟨row, m, es, g, q1, q2, fun x hx => List.mem_append_right _ (q3 x hx)⟩
theorem Own.inner {H : List Row} : ∀ {n : Nat} {a r : AV} {fs : List Nat}, Own H n a r fs → ∀ l ∈ fs, ∃ row m es g, H[l]? = some row ∧ a0_ (Own H m) row.es es g ∧ ∀ x ∈ g, x ∈ fs
 | 0, _, _, _, h => h.elim
 | n + 1, a, r, fs, h => by
  intro l hl
  cases a with
  | val v => obtain ⟨h, _⟩ := h; subst h; simp at hl
  | own l' k =>
   obtain ⟨row, es, f, h1, h2, h3, h4, h5⟩ := h
   subst h5
   rcases List.mem_cons.1 hl with q | q
   ·subst q; exact ⟨row, n, es, f, h1, h3, fun x hx => List.mem_cons_of_mem _ hx⟩
   ·obtain ⟨row', m, es', g, q1, q2, q3⟩ := a0_.inner (fun a r f ho => Own.inner ho) h3 l q
    exact ⟨row', m, es', g, q1, q2, fun x hx => List.mem_cons_of_mem _ (q3 x hx)⟩
  | sub l' k lo hi =>
   obtain ⟨row, es, f, h1, h2, h3, h4, h5⟩ := h
   subst h5
   rcases List.mem_cons.1 hl with q | q
   ·subst q; exact ⟨row, n, es, f, h1, h3, fun x hx => List.mem_cons_of_mem _ hx⟩
   ·obtain ⟨row', m, es', g, q1, q2, q3⟩ := a0_.inner (fun a r f ho => Own.inner ho) h3 l q
    exact ⟨row', m, es', g, q1, q2, fun x hx => List.mem_cons_of_mem _ (q3 x hx)⟩
  | agg cs =>
   obtain ⟨ds, h1, h2⟩ := h
   exact aP_.inner (fun a r f ho => Own.inner ho) h1 l hl
  | tup cs =>
   obtain ⟨ds, h1, h2⟩ := h
   exact aP_.inner (fun a r f ho => Own.inner ho) h1 l hl
  | _ => exact h.elim
theorem aP_.trans {S S' : Sit} {R : AV → AV → List Nat → Prop} : ∀ {as rs : List AV} {fs : List Nat} {xs : List Value}, (∀ a x r f, (∀ l ∈ f, l ∈ fs) → R a r f → Rep S a x → Rep S' a x) → aP_ R as rs fs → ap_ S as xs → ap_ S' as xs
 | [], rs, fs, xs, _, h, r => by simpa [ap_] using r
 | a :: as, rs, fs, xs, hone, h, r => by
  obtain ⟨d, ds', f, f', e1, e2, h1, h2⟩ := h
  subst e2
  simp only [ap_] at r ⊢
  obtain ⟨v, q, e, r2, r3⟩ := r
  exact ⟨v, q, e, hone a v d f (fun l hl => List.mem_append_left _ hl) h1 r2, aP_.trans (fun a x r g hg => hone a x r g fun l hl => List.mem_append_right _ (hg l hl)) h2 r3⟩
theorem aP_.transPre {S S' : Sit} {R : AV → AV → List Nat → Prop} : ∀ {as rs : List AV} {fs : List Nat} {xs : List Value}, (∀ a x r f, (∀ l ∈ f, l ∈ fs) → R a r f → Rep S a x → Rep S' a x) → aP_ R as rs fs → aG_ S as xs → aG_ S' as xs
 | [], rs, fs, xs, _, h, r => by simp [aG_]
 | a :: as, rs, fs, xs, hone, h, r => by
  obtain ⟨d, ds', f, f', e1, e2, h1, h2⟩ := h
  subst e2
  simp only [aG_] at r ⊢
  obtain ⟨v, q, e, r2, r3⟩ := r
  exact ⟨v, q, e, hone a v d f (fun l hl => List.mem_append_left _ hl) h1 r2, aP_.transPre (fun a x r g hg => hone a x r g fun l hl => List.mem_append_right _ (hg l hl)) h2 r3⟩
theorem a0_.trans {S S' : Sit} {R : AV → AV → List Nat → Prop} : ∀ {as rs : List (List AV)} {fs : List Nat} {xs : List Value}, (∀ a x r f, (∀ l ∈ f, l ∈ fs) → R a r f → Rep S a x → Rep S' a x) → a0_ R as rs fs → aB_ S as xs → aB_ S' as xs
 | [], rs, fs, xs, _, h, r => by simp [aB_]
 | a :: as, rs, fs, xs, hone, h, r => by
  obtain ⟨d, ds', f, f', e1, e2, h1, h2⟩ := h
  subst e2
  simp only [aB_] at r ⊢
  exact ⟨aP_.transPre (fun a x r g hg => hone a x r g fun l hl => List.mem_append_left _ (hg l hl)) h1 r.1, a0_.trans (fun a x r g hg => hone a x r g fun l hl => List.mem_append_right _ (hg l hl)) h2 r.2⟩
theorem Own.trans {S S' : Sit} {H : List Row} : ∀ {n : Nat} {a r : AV} {fs : List Nat} {x : Value}, (∀ l ∈ fs, S'.rows[l]? = S.rows[l]?) → Own H n a r fs → Rep S a x → Rep S' a x
 | 0, _, _, _, _, _, h, _ => h.elim
 | n + 1, a, r, fs, x, hk, h, hr => by
  cases a with
  | val v => simpa [Rep] using hr
  | own l k =>
   obtain ⟨row, es, f, h1, h2, h3, h4, h5⟩ := h
   subst h5
   simp only [Rep] at hr ⊢
   rw [hk l (by simp)]
   exact hr
  | sub l k lo hi =>
   obtain ⟨row, es, f, h1, h2, h3, h4, h5⟩ := h
   subst h5
   simp only [Rep] at hr ⊢
   rw [hk l (by simp)]
   exact hr
  | agg cs =>
   obtain ⟨ds, h1, h2⟩ := h
   simp only [Rep] at hr ⊢
   obtain ⟨vs, e, hr⟩ := hr
   exact ⟨vs, e, aP_.trans (fun a x r g hg ho hx => Own.trans (fun l hl => hk l (hg l hl)) ho hx) h1 hr⟩
  | tup cs =>
   obtain ⟨ds, h1, h2⟩ := h
   simp only [Rep] at hr ⊢
   obtain ⟨vs, e, hr⟩ := hr
   exact ⟨vs, e, aP_.trans (fun a x r g hg ho hx => Own.trans (fun l hl => hk l (hg l hl)) ho hx) h1 hr⟩
  | _ => exact h.elim
def e6_ : b0_ := ⟨0, none, 0, 0⟩
def gZ_ : Row := ⟨0, 0, []⟩
def kN_ (fs : List Nat) (base : Nat) (hn : List Row) : List Row := hn.mapIdx fun i r => if fs.contains (base + i) then r else gZ_
def jn_ (fs : List Nat) (base : Nat) (hn : List b0_) : List b0_ := hn.mapIdx fun i r => if fs.contains (base + i) then r else e6_
theorem lW_ {P : Program} {f : FuncId} {as rs : List AV} {H : List Row} {r : AV} {Q : AV → Prop} (hc : aS_ P f rs r Q) (ha : ∀ (S : Sit) (w : World) (xs : List Value), al_ S H w → ap_ S as xs → ap_ (S.shut w) rs xs) {K : AV → List Row → Prop} (hk : ∀ av hn, fb_ H.length (H ++ hn) av r → Q av → K av (H ++ hn)) : callSem P f as H K := by
 intro S w vals hm hgl hr
 have hlen := hm.len
 let S0 : Sit := { imm := (S.shut w).imm, rows := List.replicate H.length e6_ }
 have hle0 : (S.shut w).le S0 := ⟨fun _ _ e => e, by simp [Sit.shut]⟩
 have hm0 : al_ S0 (List.replicate H.length gZ_) w := by
  refine ⟨hm.shut, by simp [S0], fun l i row q1 q2 => ?_, fun l l' i i' b q1 _ q2 _ => ?_⟩
  ·have e1 := List.eq_of_mem_replicate (List.mem_of_getElem? q1)
   have e2 := List.eq_of_mem_replicate (List.mem_of_getElem? q2)
   subst e1 e2
   exact ⟨rfl, rfl, by simp [gZ_], rfl, rfl⟩
  ·have e1 := List.eq_of_mem_replicate (List.mem_of_getElem? q1)
   subst e1; simp [e6_] at q2
 have hrep : ap_ S0 rs vals.toList := ap_.up hle0 _ _ (ha S w _ hm hr)
 refine (hc (List.replicate H.length gZ_) (fun av h' => ∃ hn, h' = List.replicate H.length gZ_ ++ hn ∧ fb_ H.length (List.replicate H.length gZ_ ++ hn) av r ∧ Q av) (fun av hn hf hq => ⟨hn, rfl, by simpa using hf, hq⟩) S0 w vals hm0 ((hgl.shut hm).up hle0) hrep).mono ?_
 rintro e w' ⟨v, av, S1, h1, rfl, st, hm1, rv, hn, rfl, ⟨n, fs, ho, hnd, hge⟩, hQ⟩
 have hno : ∀ b, ¬ S0.owns b := by
  rintro b ⟨l, i, q1, q2⟩
  have e1 := List.eq_of_mem_replicate (List.mem_of_getElem? q1)
  subst e1; simp [e6_] at q2
 have hb : Below w.heap.size w w' := ⟨st.os, st.tape, st.output, st.size, fun k hk => st.block k hk (hno k)⟩
 have hnew : ∀ b, S1.owns b → w.heap.size ≤ b := fun b hb => (st.ownNew b hb).resolve_left (hno b)
 have hl1 : S1.rows.length = H.length + hn.length := by rw [hm1.len]; simp
 have hm' := hm.below hb
 let S2 : Sit := { imm := S.imm, rows := S.rows ++ jn_ fs H.length (S1.rows.drop H.length) }
 have hrows : ∀ l ∈ fs, S2.rows[l]? = S1.rows[l]? := by
  intro l hl
  have hg := hge l hl
  show (S.rows ++ jn_ fs H.length (S1.rows.drop H.length))[l]? = _
  rw [List.getElem?_append_right (by omega), hlen]
  simp only [jn_, List.getElem?_mapIdx, List.getElem?_drop]
  have e : H.length + (l - H.length) = l := by omega
  rw [e]
  cases S1.rows[l]? with
  | none => rfl
  | some i => simp [hl]
 have hR : ∀ l ∈ fs, (H ++ kN_ fs H.length hn)[l]? = (List.replicate H.length gZ_ ++ hn)[l]? := by
  intro l hl
  have hg := hge l hl
  rw [List.getElem?_append_right hg, List.getElem?_append_right (by simpa using hg)]
  simp only [kN_, List.getElem?_mapIdx, List.length_replicate]
  have e : H.length + (l - H.length) = l := by omega
  rw [e]
  cases hn[l - H.length]? with
  | none => rfl
  | some i => simp [hl]
 have hS2 : S.le S2 := ⟨fun _ _ e => e, fun l i e => ⟨i, by
  show (S.rows ++ _)[l]? = _
  rw [List.getElem?_append_left (List.getElem?_eq_some_iff.1 e).1]; exact e, Nat.le_refl _, fun _ => rfl⟩⟩
 have hcase : ∀ (l : Nat) (i : b0_), S2.rows[l]? = some i → (l < H.length ∧ S.rows[l]? = some i) ∨ (H.length ≤ l ∧ l ∈ fs ∧ S1.rows[l]? = some i) ∨ (H.length ≤ l ∧ l ∉ fs ∧ i = e6_) := by
  intro l i q
  by_cases hlt : l < H.length
  ·left
   refine ⟨hlt, ?_⟩
   have : (S.rows ++ jn_ fs H.length (S1.rows.drop H.length))[l]? = some i := q
   rwa [List.getElem?_append_left (by omega)] at this
  ·right
   by_cases hf : l ∈ fs
   ·left; exact ⟨by omega, hf, by rw [← hrows l hf]; exact q⟩
   ·right
    refine ⟨by omega, hf, ?_⟩
    have : (S.rows ++ jn_ fs H.length (S1.rows.drop H.length))[l]? = some i := q
    rw [List.getElem?_append_right (by omega), hlen] at this
    simp only [jn_, List.getElem?_mapIdx, List.getElem?_drop, Option.map_eq_some_iff] at this
    obtain ⟨j, _, e⟩ := this
    have e' : H.length + (l - H.length) = l := by omega
    rw [e'] at e
    simp [hf] at e
    exact e.symm
 have hown2 : ∀ b, S2.owns b → S.owns b ∨ (w.heap.size ≤ b) := by
  rintro b ⟨l, i, q1, q2⟩
  rcases hcase l i q1 with ⟨_, q⟩ | ⟨_, _, q⟩ | ⟨_, _, q⟩
  ·exact .inl ⟨l, i, q, q2⟩
  ·exact .inr (hnew b ⟨l, i, q, q2⟩)
  ·subst q; simp [e6_] at q2
 have hm2 : al_ S2 (H ++ kN_ fs H.length hn) w' := by
  refine ⟨hm'.imm, by simp only [S2, List.length_append, jn_, kN_, List.length_mapIdx, List.length_drop, hl1, hlen]; omega, fun l i row q1 q2 => ?_, fun l l' i i' b q1 q1' q2 q2' => ?_⟩
  ·rcases hcase l i q1 with ⟨hlt, q⟩ | ⟨hge', hf, q⟩ | ⟨hge', hf, q⟩
   ·rw [List.getElem?_append_left hlt] at q2
    obtain ⟨k1, k2, k3, k4⟩ := hm'.rows l i row q q2
    refine ⟨k1, k2, k3, ?_⟩
    cases hbk : i.blk with
    | none => rw [hbk] at k4; exact k4
    | some b =>
     rw [hbk] at k4
     exact ⟨k4.1, k4.2.le hS2 rfl⟩
   ·rw [hR l hf] at q2
    obtain ⟨k1, k2, k3, k4⟩ := hm1.rows l i row q q2
    refine ⟨k1, k2, k3, ?_⟩
    cases hbk : i.blk with
    | none => rw [hbk] at k4; exact k4
    | some b =>
     rw [hbk] at k4
     have hbig := hnew b ⟨l, i, q, hbk⟩
     refine ⟨?_, ?_⟩
     ·cases hi : S.imm b with
      | none => rfl
      | some d => have := hm.immLt hi; omega
     ·have k5 := k4.2
      unfold bj_ at k5 ⊢
      split at k5
      case h_2 => exact k5
      case h_1 =>
       obtain ⟨c, j2, j3, j4⟩ := k5
       refine ⟨c, j2, ?_, j4⟩
       obtain ⟨row', m, es, g, p1, p2, p3⟩ := ho.inner l hf
       rw [q2] at p1
       obtain rfl := Option.some.inj p1
       exact a0_.trans (fun a x r g' hg' hoa hx => Own.trans (fun l' hl' => hrows l' (p3 l' (hg' l' hl'))) hoa hx) p2 j3
      case h_3 =>
       obtain ⟨⟨c, j2, j3, j4⟩, j5⟩ := k5
       refine ⟨⟨c, j2, ?_, j4⟩, j5⟩
       obtain ⟨row', m, es, g, p1, p2, p3⟩ := ho.inner l hf
       rw [q2] at p1
       obtain rfl := Option.some.inj p1
       exact a0_.trans (fun a x r g' hg' hoa hx => Own.trans (fun l' hl' => hrows l' (p3 l' (hg' l' hl'))) hoa hx) p2 j3
   ·subst q
    rw [List.getElem?_append_right hge'] at q2
    simp only [kN_, List.getElem?_mapIdx, Option.map_eq_some_iff] at q2
    obtain ⟨j, _, e⟩ := q2
    have e' : H.length + (l - H.length) = l := by omega
    rw [e'] at e
    simp [hf] at e
    subst e
    exact ⟨rfl, rfl, by simp [gZ_], rfl, rfl⟩
  ·rcases hcase l i q1 with ⟨_, q⟩ | ⟨_, _, q⟩ | ⟨_, _, q⟩ <;> rcases hcase l' i' q1' with ⟨_, q'⟩ | ⟨_, _, q'⟩ | ⟨_, _, q'⟩
   ·exact hm.one l l' i i' b q q' q2 q2'
   ·have h1 := hm.ownLt ⟨l, i, q, q2⟩
    have h2 := hnew b ⟨l', i', q', q2'⟩
    omega
   ·subst q'; simp [e6_] at q2'
   ·have h1 := hm.ownLt ⟨l', i', q', q2'⟩
    have h2 := hnew b ⟨l, i, q, q2⟩
    omega
   ·exact hm1.one l l' i i' b q q' q2 q2'
   ·subst q'; simp [e6_] at q2'
   ·subst q; simp [e6_] at q2
   ·subst q; simp [e6_] at q2
   ·subst q; simp [e6_] at q2
 refine ⟨v, av, S2, H ++ kN_ fs H.length hn, rfl, ⟨hS2, hb.os, hb.tape, hb.output, hb.size, fun b hlt _ => hb.block b hlt, hown2, fun b c q => .inl q⟩, hm2, Own.trans hrows ho rv, hk av _ ⟨n, fs, ho.keep hR, hnd, hge⟩ hQ⟩
theorem sx_ {P : Program} {f : FuncId} {as rs : List AV} {H : List Row} {r : AV} {Q : AV → Prop} (hc : aS_ P f rs r Q) (ha : ca_ H as rs) {K : AV → List Row → Prop} (hk : ∀ av hn, fb_ H.length (H ++ hn) av r → Q av → K av (H ++ hn)) : callSem P f as H K :=
 lW_ hc (fun S w xs hm hr => ha.rep hm hr) hk
theorem hX_ {P : Program} {f : FuncId} {fn : Func} {lf : LF} {args : List AV} {r : AV} {Q : AV → Prop} (hmx : P.follows .mixedOrders = true) (hf : P.funcs[f]? = some fn) (hl : ar_ P fn lf) (hn : args.length = lf.np)
 (hw : ∀ h : List Row, Ex P lf.N (cu_ lf.res fun av h' => ∃ hn, h' = h ++ hn ∧ fb_ h.length (h ++ hn) av r ∧ Q av) lf.body [] (gm_ args) h) : aS_ P f args r Q := by
 intro h K hk
 refine (bD_ hmx hf hl (c7_ hn (hw h))).mono ?_
 rintro a h' ⟨hn, rfl, h1, h2⟩
 exact hk a hn h1 h2
def txt (l : List UInt8) : ByteArray := ⟨l.toArray⟩
theorem oJ_ (s : ByteArray) : s = txt s.data.toList := by cases s; rfl
theorem xc_ (l : List UInt8) : (⟨l.toArray⟩ : ByteArray) = txt l := rfl
theorem bT_ (l : List UInt8) : (txt l).size = l.length := by simp [txt, ByteArray.size]
theorem bQ_ (l : List UInt8) : (txt l).data.toList = l := by simp [txt]
theorem qO_ (l : List UInt8) : (txt l).toList = l := by rw [d0_, bQ_]
theorem qH_ (a b : List UInt8) : (txt a = txt b) = (a = b) := by
 apply propext; constructor
 ·intro h; have := congrArg (fun x => x.data.toList) h; simpa [bQ_] using this
 ·intro h; rw [h]
theorem wR_ (l : List UInt8) (i : Nat) : (txt l)[i]? = l[i]? := by
 by_cases h : i < l.length
 ·rw [getElem?_pos (txt l) i (by rw [bT_]; exact h), List.getElem?_eq_getElem h]
  congr 1
 ·rw [getElem?_neg (txt l) i (by rw [bT_]; exact h), List.getElem?_eq_none (by omega)]
theorem pX_ (l : List UInt8) (i j : Nat) : (txt l).extract i j = txt ((l.take j).drop i) := by
 rw [oJ_ ((txt l).extract i j)]
 congr 1
 rw [ByteArray.data_extract]
 simp [txt, List.extract_eq_drop_take', ]
theorem w3_ (a b : List UInt8) : txt a ++ txt b = txt (a ++ b) := by
 rw [oJ_ (txt a ++ txt b)]
 congr 1
theorem oN_ (q : Bool) (a b : List UInt8) (h : a.length + b.length ≤ 9223372036854775807) : a6_ .add q (.val (.string (txt a))) (.val (.string (txt b))) = some (.val (.string (txt (a ++ b)))) := by
 simp only [a6_, binOp, Op.stringOp, bT_]
 have h' : ¬ (((a.length + b.length : Nat) : Int) > IntKind.i64.max) := by
  have : IntKind.i64.max = 9223372036854775807 := by decide
  rw [this]; omega
 rw [if_neg h', w3_]
 rfl
theorem w6_ (q : Bool) (a b : Int) (hb : b ≠ 0) : a6_ .quo q (.val (.int .i64 a)) (.val (.int .i64 b)) = some (.val (.int .i64 (IntKind.i64.wrap (a.tdiv b)))) := by
 have : a6_ .quo q (.val (.int .i64 a)) (.val (.int .i64 b)) = eC_ (Op.intDiv .quo .i64 a b) := rfl
 rw [this, Op.intDiv, if_neg hb]; rfl
theorem xh_ (q : Bool) (a b : Int) (hb : b ≠ 0) : a6_ .rem q (.val (.int .i64 a)) (.val (.int .i64 b)) = some (.val (.int .i64 (a.tmod b))) := by
 have : a6_ .rem q (.val (.int .i64 a)) (.val (.int .i64 b)) = eC_ (Op.intDiv .rem .i64 a b) := rfl
 rw [this, Op.intDiv, if_neg hb]; rfl
theorem uj_ (q : Bool) (a b : Int) : a6_ .sub q (.val (.int .u8 a)) (.val (.int .u8 b)) = some (.val (.int .u8 (IntKind.u8.wrap (a - b)))) := rfl
theorem q9_ {n : Int} (h1 : 0 ≤ n) (h2 : n ≤ 255) : IntKind.u8.wrap n = n := by
 rw [IntKind.wrap_u8]; omega
theorem tQ_ {a b : Int} (h : 0 ≤ a) : a.tdiv b = a / b := Int.tdiv_eq_ediv_of_nonneg h
theorem tO_ {a b : Int} (h : 0 ≤ a) : a.tmod b = a % b := Int.tmod_eq_emod_of_nonneg h
theorem l3_ (b : UInt8) : b.toNat < 256 := b.toNat_lt
theorem oh_ (b c : UInt8) : (((b.toNat : Nat) : Int) = ((c.toNat : Nat) : Int)) = (b = c) := by
 apply propext; constructor
 ·intro h; exact UInt8.toNat_inj.1 (by omega)
 ·intro h; rw [h]
theorem nn_ (b : UInt8) : fA_ [.val (.int .u8 b.toNat)] = some b := by
 simp [fA_]
theorem ra_ {n : Int} (h1 : 0 ≤ n) (h2 : n ≤ 255) : fA_ [.val (.int .u8 n)] = some (UInt8.ofNat n.toNat) := by
 simp only [fA_]
 have : ((UInt8.ofNat n.toNat).toNat : Int) = n := by
  rw [UInt8.toNat_ofNat']; omega
 rw [if_pos this]
theorem n9_ (l : List UInt8) (i : Nat) : (be_ l)[i]? = (l[i]?).map fun b => [.val (.int .u8 b.toNat)] := by simp [be_]
theorem fH_ (l : List UInt8) : (be_ l).length = l.length := by simp [be_]
theorem hi_ : ∀ (l : List UInt8), (be_ l).mapM fA_ = some l
 | [] => rfl
 | b :: l => by
  have := hi_ l
  simp only [be_, List.map_cons, List.mapM_cons] at this ⊢
  rw [nn_]
  simp [this]
theorem cm_ {α : Type} (l : List α) (k : Nat) (h : k < l.length) : l.drop k = l[k] :: l.drop (k + 1) := List.drop_eq_getElem_cons h
theorem xa_ {α : Type} {a b : Nat} {x y : α} (h : a ≤ b) : (if a ≤ b then x else y) = x := if_pos h
theorem xH_ {α : Type} {a b : Int} {x y : α} (h : a ≤ b) : (if a ≤ b then x else y) = x := if_pos h
theorem tt_ {α : Type} {a b c d : Nat} {x y : α} (h : a ≤ b) (h2 : c ≤ d) : (if a ≤ b ∧ c ≤ d then x else y) = x := if_pos ⟨h, h2⟩
attribute [go_sem] List.getElem_cons_zero List.getElem_cons_succ
theorem wY_ {p : List AV → Prop} (x : List AV) : (∀ e ∈ [x], p e) = p x := by simp
theorem BF_ : List.range 1 = [0] := rfl
theorem zn_ : List.range 2 = [0, 1] := rfl
theorem yZ_ : List.range 3 = [0, 1, 2] := rfl
section
variable {P : Program} {N : Nat} {Q : d3_} {t : Nat → AV} {h : List Row}
theorem iK_ {b : LC} {id : Nat} {k : List Fr} (I : Nat → (Nat → AV) → List Row → Prop) (n : Nat) (E : (Nat → AV) → List Row → Prop) (h0 : I n t h)
 (hr : ∀ (J : Nat → (Nat → AV) → List Row → Prop), (∀ m t h, I m t h → J m t h) → ∀ (k' : List Fr), (∀ t h, E t h → ExK P N Q k' .normal t h) → ∀ n t h, I n t h → Ex P N Q b (.loop J n :: .blk id :: k') t h)
 (hx : ∀ t h, E t h → ExK P N Q k .normal t h) : Ex P N Q (.loop b) (.blk id :: k) t h :=
 aO_ I n h0 fun J hJ n t h hi => hr J hJ k hx n t h hi
end
theorem yz_ : List.range 0 = [] := rfl
attribute [go_sem] yz_ eM_ wY_ BF_ zn_ yZ_ AV.flat List.mapM_cons
attribute [go_sem] xa_ xH_ tt_ xc_ bT_ bQ_ qO_ qH_ wR_ pX_ oN_ w6_ xh_ mH_ uj_ q9_ tQ_ tO_ nn_ ra_ n9_ fH_ x7_
theorem mB_ (S : Sit) : ∀ vs : List Value, ap_ S (vs.map AV.val) vs
 | [] => by simp [ap_]
 | v :: vs => by simp only [List.map_cons, ap_]; exact ⟨v, vs, rfl, by simp [Rep], mB_ S vs⟩
theorem tp_ {P : Program} {f : FuncId} {vals us : List Value}
 (hc : ∀ w, (∀ p ∈ pj_, (P.globalNamed p.1).isSome = true → w.var? P p.1 = some p.2) → Calls P f vals.toArray w fun e w' => e = .returned (.tuple us.toArray) ∧ RowKit.Below w.heap.size w w') (h : List Row) : aa_ P f (vals.map AV.val) h (.tup (us.map AV.val)) := by
 intro K hk S w xs hm hgl hr
 have e := gn_ hr
 have e' : xs = vals.toArray := by cases xs; simp at e; rw [e]
 subst e'
 refine (hc w ?_).mono ?_
 ·intro p hp hs
  obtain ⟨g, hg⟩ := Option.isSome_iff_exists.1 hs
  obtain ⟨E, fr, hw⟩ := hm.imm g p.2 (hgl.1 p hp g hg)
  simp only [World.var?, hg, Option.bind_some, hw]
 ·rintro e w' ⟨rfl, b⟩
  exact ⟨_, .tup (us.map AV.val), S, h, rfl, bd_.below b, hm.below b, by simp only [Rep]; exact ⟨_, rfl, by simpa using mB_ S us⟩, hk⟩
def AV.solid : AV → Bool
 | .val _ => true
 | .tup cs => cs.all fun | .val _ => true | _ => false
 | _ => false
theorem l5_ {S S' : Sit} : ∀ {cs : List AV} {xs : List Value}, (cs.all fun | .val _ => true | _ => false) = true → ap_ S cs xs → ap_ S' cs xs
 | [], xs, _, r => by simpa [ap_] using r
 | c :: cs, xs, h, r => by
  simp only [List.all_cons, Bool.and_eq_true] at h
  simp only [ap_] at r ⊢
  obtain ⟨v, q, e, r1, r2⟩ := r
  refine ⟨v, q, e, ?_, l5_ h.2 r2⟩
  cases c with
  | val u => simpa [Rep] using r1
  | _ => simp at h
theorem h0_ {S S' : Sit} {a : AV} {x : Value} (h : a.solid = true) (r : Rep S a x) : Rep S' a x := by
 cases a with
 | val v => simpa [Rep] using r
 | tup cs =>
  simp only [Rep] at r ⊢
  obtain ⟨vs, e, r⟩ := r
  exact ⟨vs, e, l5_ h r⟩
 | _ => simp [AV.solid] at h
theorem kM_ {H : List Row} {l k n : Nat} {r : Row} (hl : H[l]? = some r) (hk : r.es.length = k) (hf : ∀ e ∈ r.es, e.all AV.flat = true) : resolve H (n + 2) (.own l k) = some (.list 0 r.sz r.es) := by
 have e : resolve H (n + 2) (.own l k) = match H[l]? with
  | some r => if r.es.length = k then (r.es.mapM fun (e : List AV) => e.mapM (resolve H (n + 1))).map (.list 0 r.sz) else none
  | none => none := rfl
 rw [e, hl]
 simp only [hk, if_true]
 rw [jg_ hf]
 rfl
theorem xz_ {p : List AV → Prop} (x y : List AV) : (∀ e ∈ [x, y], p e) = (p x ∧ p y) := by simp
attribute [go_sem] xz_
def gY_ (zs : List Int) : List (List AV) := zs.map fun z => [.val (.int .i64 z)]
theorem rS_ (zs : List Int) : (gY_ zs).length = zs.length := by simp [gY_]
theorem rO_ (a b : List Int) : gY_ a ++ gY_ b = gY_ (a ++ b) := by simp [gY_]
theorem Own.val {H : List Row} {n : Nat} {a : AV} {v : Value} {fs : List Nat} (h : Own H n a (.val v) fs) : a = .val v ∧ fs = [] := by
 cases n with
 | zero => exact h.elim
 | succ n =>
  cases a with
  | val u =>
   obtain ⟨h1, h2 | ⟨_, _, h2⟩⟩ := h
   ·injection h2 with q; subst q; exact ⟨rfl, h1⟩
   ·cases h2
  | own l k => obtain ⟨_, _, _, _, _, _, q, _⟩ := h; cases q
  | sub l k lo hi => obtain ⟨_, _, _, _, _, _, q, _⟩ := h; cases q
  | agg cs => obtain ⟨_, _, q⟩ := h; cases q
  | tup cs => obtain ⟨_, _, q⟩ := h; cases q
  | _ => exact h.elim
theorem t5_ (out : List Int) (x : Int) : gY_ out ++ [[AV.val (Value.int .i64 x)]] = gY_ (out ++ [x]) := rO_ out [x]
theorem uD_ {p : List AV → Prop} : (∀ e ∈ ([] : List (List AV)), p e) = True := by simp
attribute [go_sem] rS_ t5_ uD_
inductive Sch where
 | int
 | str
 | bool
 | list (fs : List Sch)
def cp_ (g : List AV → Int → List AV × Int) : List (List AV) → Int → List (List AV) × Int
 | [], k => ([], k)
 | e :: es, k => ((g e k).1 :: (cp_ g es (g e k).2).1, (cp_ g es (g e k).2).2)
def fN_ (g : List AV → Int → Int) : List (List AV) → Int → Int
 | [], k => k
 | e :: es, k => if g e k < 0 then -1 else fN_ g es (g e k)
def ep_ (g : List AV → Nat) : List (List AV) → Nat
 | [] => 0
 | e :: es => g e + ep_ g es
section
variable (mt : Int → ByteArray)
mutual
def bs_ : Sch → AV → Int → AV × Int
 | .int, _, k => (.val (.int .i64 k), k + 1)
 | .str, _, k => (.val (.string (mt k)), k + 1)
 | .bool, _, k => (.val (.bool (decide (k % 3 = 0))), k + 1)
 | .list fs, .list tk sz es, k => (.list tk sz (cp_ (du_ fs) es k).1, (cp_ (du_ fs) es k).2)
 | .list _, a, k => (a, k)
def du_ : List Sch → List AV → Int → List AV × Int
 | s :: ss, c :: cs, k => ((bs_ s c k).1 :: (du_ ss cs (bs_ s c k).2).1, (du_ ss cs (bs_ s c k).2).2)
 | _, cs, k => (cs, k)
end
mutual
def er_ : Sch → AV → Int → Int
 | .int, .val (.int .i64 n), k => if n = k then k + 1 else -1
 | .str, .val (.string s), k => if s = mt k then k + 1 else -1
 | .bool, .val (.bool b), k => if b = decide (k % 3 = 0) then k + 1 else -1
 | .list fs, .list _ _ es, k => fN_ (jE_ fs) es k
 | _, _, _ => -1
def jE_ : List Sch → List AV → Int → Int
 | s :: ss, c :: cs, k => if er_ s c k < 0 then -1 else jE_ ss cs (er_ s c k)
 | _, _, k => k
end
end
mutual
def bn_ : Sch → AV → Nat
 | .list fs, .list _ _ es => ep_ (ew_ fs) es
 | .list _, _ => 0
 | _, _ => 1
def ew_ : List Sch → List AV → Nat
 | s :: ss, c :: cs => bn_ s c + ew_ ss cs
 | _, _ => 0
end
mutual
def c5_ : Sch → AV → Prop
 | .int, a => ∃ n, a = .val (.int .i64 n)
 | .str, a => ∃ s, a = .val (.string s)
 | .bool, a => ∃ b, a = .val (.bool b)
 | .list fs, a => ∃ es, a = .list 0 fs.length es ∧ ∀ e ∈ es, fr_ fs e
def fr_ : List Sch → List AV → Prop
 | [], cs => cs = []
 | s :: ss, cs => ∃ c r, cs = c :: r ∧ c5_ s c ∧ fr_ ss r
end
variable {mt : Int → ByteArray}
theorem r6_ {g : List AV → Int → List AV × Int} {c : List AV → Nat} {xs : List (List AV)} (hg : ∀ x ∈ xs, ∀ k, (g x k).2 = k + c x) (k : Int) : (cp_ g xs k).2 = k + ep_ c xs := by
 induction xs generalizing k with
 | nil => simp [cp_, ep_]
 | cons y xs ih =>
  rw [cp_, ep_]
  simp only
  rw [ih (fun x hx => hg x (by simp [hx])), hg y (by simp)]
  omega
theorem uz_ {g : List AV → Int → List AV × Int} {d : List AV → Int → Int} {c : List AV → Nat} {xs : List (List AV)} (hg : ∀ x ∈ xs, ∀ k, (g x k).2 = k + c x) (hd : ∀ x ∈ xs, ∀ k, 0 ≤ k → d (g x k).1 k = (g x k).2) (k : Int) (hk : 0 ≤ k) : fN_ d (cp_ g xs k).1 k = (cp_ g xs k).2 := by
 induction xs generalizing k with
 | nil => rfl
 | cons y xs ih =>
  rw [cp_]
  simp only [fN_]
  rw [hd y (by simp) k hk, hg y (by simp), if_neg (by omega)]
  exact ih (fun x hx => hg x (by simp [hx])) (fun x hx => hd x (by simp [hx])) _ (by omega)
mutual
theorem mv_ : ∀ (s : Sch) (a : AV) (k : Int), (bs_ mt s a k).2 = k + bn_ s a
 | .int, a, k => by simp [bs_, bn_]
 | .str, a, k => by simp [bs_, bn_]
 | .bool, a, k => by simp [bs_, bn_]
 | .list fs, .list tk sz es, k => by
  simp only [bs_, bn_]
  exact r6_ (fun x _ k => lO_ fs x k) k
 | .list fs, .val v, k => by simp [bs_, bn_]
 | .list fs, .iptr cs, k => by simp [bs_, bn_]
 | .list fs, .ptr _ _ _ _, k => by simp [bs_, bn_]
 | .list fs, .own _ _, k => by simp [bs_, bn_]
 | .list fs, .sub _ _ _ _, k => by simp [bs_, bn_]
 | .list fs, .mp _, k => by simp [bs_, bn_]
 | .list fs, .agg _, k => by simp [bs_, bn_]
 | .list fs, .tup _, k => by simp [bs_, bn_]
 | .list fs, .fn _ _ _, k => by simp [bs_, bn_]
 | .list fs, .undef, k => by simp [bs_, bn_]
theorem lO_ : ∀ (fs : List Sch) (cs : List AV) (k : Int), (du_ mt fs cs k).2 = k + ew_ fs cs
 | [], cs, k => by simp [du_, ew_]
 | s :: ss, [], k => by simp [du_, ew_]
 | s :: ss, c :: cs, k => by
  simp only [du_, ew_]
  rw [lO_ ss cs, mv_ s c]; omega
end
mutual
theorem sU_ : ∀ (s : Sch) (a : AV) (k : Int), c5_ s a → 0 ≤ k → er_ mt s (bs_ mt s a k).1 k = (bs_ mt s a k).2
 | .int, a, k, _, hk => by simp [bs_, er_]
 | .str, a, k, _, hk => by simp [bs_, er_]
 | .bool, a, k, _, hk => by simp [bs_, er_]
 | .list fs, a, k, h, hk => by
  unfold c5_ at h
  obtain ⟨es, rfl, h⟩ := h
  simp only [bs_, er_]
  exact uz_ (fun x _ k => lO_ fs x k) (fun x hx k hk => qp_ fs x k (h x hx) hk) k hk
theorem qp_ : ∀ (fs : List Sch) (cs : List AV) (k : Int), fr_ fs cs → 0 ≤ k → jE_ mt fs (du_ mt fs cs k).1 k = (du_ mt fs cs k).2
 | [], cs, k, _, hk => by simp [du_, jE_]
 | s :: ss, cs, k, h, hk => by
  unfold fr_ at h
  obtain ⟨c, r, rfl, h1, h2⟩ := h
  simp only [du_, jE_]
  rw [sU_ s c k h1 hk, mv_, if_neg (by omega)]
  exact qp_ ss r _ h2 (by omega)
end
mutual
theorem sJ_ : ∀ (s : Sch) (a : AV) (k : Int), c5_ s a → c5_ s (bs_ mt s a k).1
 | .int, a, k, _ => by simp [bs_, c5_]
 | .str, a, k, _ => by simp [bs_, c5_]
 | .bool, a, k, _ => by simp [bs_, c5_]
 | .list fs, a, k, h => by
  unfold c5_ at h
  obtain ⟨es, rfl, h⟩ := h
  simp only [bs_, c5_]
  exact ⟨_, rfl, mf_ (fun x hx k => qB_ fs x k (h x hx)) k⟩
theorem qB_ : ∀ (fs : List Sch) (cs : List AV) (k : Int), fr_ fs cs → fr_ fs (du_ mt fs cs k).1
 | [], cs, k, h => by unfold fr_ at h; simp [du_, fr_, h]
 | s :: ss, cs, k, h => by
  unfold fr_ at h
  obtain ⟨c, r, rfl, h1, h2⟩ := h
  simp only [du_]
  unfold fr_
  exact ⟨_, _, rfl, sJ_ s c k h1, qB_ ss r _ h2⟩
theorem mf_ {g : List AV → Int → List AV × Int} {p : List AV → Prop} : ∀ {xs : List (List AV)}, (∀ x ∈ xs, ∀ k, p (g x k).1) → ∀ k : Int, ∀ e ∈ (cp_ g xs k).1, p e
 | [], _, k, e, he => by simp [cp_] at he
 | x :: xs, h, k, e, he => by
  simp only [cp_, List.mem_cons] at he
  rcases he with q | q
  ·subst q; exact h x (by simp) k
  ·exact mf_ (fun y hy => h y (by simp [hy])) _ e q
end
mutual
theorem q7_ : ∀ (s : Sch) (a : AV) (k : Int), c5_ s a → bn_ s (bs_ mt s a k).1 = bn_ s a
 | .int, a, k, _ => by simp [bn_]
 | .str, a, k, _ => by simp [bn_]
 | .bool, a, k, _ => by simp [bn_]
 | .list fs, a, k, h => by
  unfold c5_ at h
  obtain ⟨es, rfl, h⟩ := h
  simp only [bs_, bn_]
  exact mm_ (fun x hx k => oP_ fs x k (h x hx)) k
theorem oP_ : ∀ (fs : List Sch) (cs : List AV) (k : Int), fr_ fs cs → ew_ fs (du_ mt fs cs k).1 = ew_ fs cs
 | [], cs, k, h => by simp [ew_]
 | s :: ss, cs, k, h => by
  unfold fr_ at h
  obtain ⟨c, r, rfl, h1, h2⟩ := h
  simp only [du_, ew_]
  rw [q7_ s c k h1, oP_ ss r _ h2]
theorem mm_ {g : List AV → Int → List AV × Int} {c : List AV → Nat} : ∀ {xs : List (List AV)}, (∀ x ∈ xs, ∀ k, c (g x k).1 = c x) → ∀ k : Int, ep_ c (cp_ g xs k).1 = ep_ c xs
 | [], _, k => rfl
 | x :: xs, h, k => by
  simp only [cp_, ep_]
  rw [h x (by simp), mm_ (fun y hy => h y (by simp [hy]))]
end
theorem Own.lt {H : List Row} {n : Nat} {a r : AV} {fs : List Nat} (h : Own H n a r fs) : ∀ l ∈ fs, l < H.length := fun l hl => by
 obtain ⟨row, m, es, g, h1, _⟩ := h.inner l hl
 exact (List.getElem?_eq_some_iff.1 h1).1
theorem aP_.len {R : AV → AV → List Nat → Prop} : ∀ {cs ds : List AV} {fs : List Nat}, aP_ R cs ds fs → ds.length = cs.length
 | [], ds, fs, h => by obtain ⟨h, _⟩ := h; subst h; rfl
 | c :: cs, ds, fs, h => by
  obtain ⟨d, ds', f, f', e1, e2, h1, h2⟩ := h
  subst e1
  simp [aP_.len h2]
theorem aP_.split {R : AV → AV → List Nat → Prop} : ∀ {cs ds : List AV} {fs : List Nat} (j : Nat) {r : AV}, aP_ R cs ds fs → ds[j]? = some r → ∃ c f1 f2 f3, cs[j]? = some c ∧ fs = f1 ++ (f2 ++ f3) ∧ R c r f2 ∧
 ∀ (R' : AV → AV → List Nat → Prop) (c' r' : AV), (∀ a r g, (∀ l ∈ g, l ∈ f1 ∨ l ∈ f3) → R a r g → R' a r g) → R' c' r' f2 → aP_ R' (cs.set j c') (ds.set j r') fs
 | [], ds, fs, j, r, h, hj => by obtain ⟨h, _⟩ := h; subst h; simp at hj
 | c :: cs, ds, fs, 0, r, h, hj => by
  obtain ⟨d, ds', f, f', rfl, rfl, h1, h2⟩ := h
  simp only [List.getElem?_cons_zero, Option.some.injEq] at hj
  subst hj
  refine ⟨c, [], f, f', rfl, rfl, h1, fun R' c' r' hm hr => ?_⟩
  exact ⟨r', ds', f, f', rfl, rfl, hr, aP_.mono (fun a r g hg => hm a r g fun l hl => .inr (hg l hl)) h2⟩
 | c :: cs, ds, fs, j + 1, r, h, hj => by
  obtain ⟨d, ds', f, f', rfl, rfl, h1, h2⟩ := h
  simp only [List.getElem?_cons_succ] at hj
  obtain ⟨c0, f1, f2, f3, q1, rfl, q3, q4⟩ := aP_.split j h2 hj
  refine ⟨c0, f ++ f1, f2, f3, by simpa using q1, by simp, q3, fun R' c' r' hm hr => ?_⟩
  refine ⟨d, ds'.set j r', f, f1 ++ (f2 ++ f3), rfl, rfl, hm _ _ _ (fun l hl => .inl (by simp [hl])) h1, q4 R' c' r' (fun a r g hg => hm a r g fun l hl => ?_) hr⟩
  rcases hg l hl with q | q
  ·exact .inl (by simp [q])
  ·exact .inr q
theorem a0_.split {R : AV → AV → List Nat → Prop} : ∀ {es rs : List (List AV)} {fs : List Nat} (j : Nat) {d : List AV}, a0_ R es rs fs → rs[j]? = some d → ∃ e f1 f2 f3, es[j]? = some e ∧ fs = f1 ++ (f2 ++ f3) ∧ aP_ R e d f2 ∧
 ∀ (R' : AV → AV → List Nat → Prop) (e' d' : List AV), (∀ a r g, (∀ l ∈ g, l ∈ f1 ∨ l ∈ f3) → R a r g → R' a r g) → aP_ R' e' d' f2 → a0_ R' (es.set j e') (rs.set j d') fs
 | [], rs, fs, j, d, h, hj => by obtain ⟨h, _⟩ := h; subst h; simp at hj
 | e :: es, rs, fs, 0, d, h, hj => by
  obtain ⟨d0, ds', f, f', rfl, rfl, h1, h2⟩ := h
  simp only [List.getElem?_cons_zero, Option.some.injEq] at hj
  subst hj
  refine ⟨e, [], f, f', rfl, rfl, h1, fun R' c' r' hm hr => ?_⟩
  exact ⟨r', ds', f, f', rfl, rfl, hr, a0_.mono (fun a r g hg => hm a r g fun l hl => .inr (hg l hl)) h2⟩
 | e :: es, rs, fs, j + 1, d, h, hj => by
  obtain ⟨d0, ds', f, f', rfl, rfl, h1, h2⟩ := h
  simp only [List.getElem?_cons_succ] at hj
  obtain ⟨c0, f1, f2, f3, q1, rfl, q3, q4⟩ := a0_.split j h2 hj
  refine ⟨c0, f ++ f1, f2, f3, by simpa using q1, by simp, q3, fun R' c' r' hm hr => ?_⟩
  refine ⟨d0, ds'.set j r', f, f1 ++ (f2 ++ f3), rfl, rfl, aP_.mono (fun a r g hg => hm a r g fun l hl => .inl (by simp [hg l hl])) h1, q4 R' c' r' (fun a r g hg => hm a r g fun l hl => ?_) hr⟩
  rcases hg l hl with q | q
  ·exact .inl (by simp [q])
  ·exact .inr q
theorem Own.of_val {H : List Row} {m : Nat} {c : AV} {v : Value} {f : List Nat} (h : Own H m c (.val v) f) : f = [] ∧ c = .val v := by
 cases m with
 | zero => exact h.elim
 | succ m =>
  cases c with
  | val u =>
   obtain ⟨h1, h2 | ⟨_, sz, h2⟩⟩ := h
   ·simp only [AV.val.injEq] at h2; subst h2; exact ⟨h1, rfl⟩
   ·cases h2
  | own l k => obtain ⟨row, es, g, _, _, _, h4, _⟩ := h; cases h4
  | sub l k lo hi => obtain ⟨row, es, g, _, _, _, h4, _⟩ := h; cases h4
  | agg cs => obtain ⟨ds, _, h4⟩ := h; cases h4
  | tup cs => obtain ⟨ds, _, h4⟩ := h; cases h4
  | _ => exact h.elim
theorem Own.mk_val (H : List Row) (m : Nat) (v : Value) : Own H (m + 1) (.val v) (.val v) [] := ⟨rfl, .inl rfl⟩
theorem a0_.up {H : List Row} {n m : Nat} (hm : n ≤ m) {es rs : List (List AV)} {fs : List Nat} (h : a0_ (Own H n) es rs fs) : a0_ (Own H m) es rs fs := a0_.mono (fun _ _ _ _ ho => Own.up hm ho) h
theorem aP_.up {H : List Row} {n m : Nat} (hm : n ≤ m) {es rs : List AV} {fs : List Nat} (h : aP_ (Own H n) es rs fs) : aP_ (Own H m) es rs fs := aP_.mono (fun _ _ _ _ ho => Own.up hm ho) h
structure MT (H0 : List Row) (l : Nat) (E : Tag) (sz cnt : Nat) (f : List Nat) (rs : List (List AV)) (H : List Row) : Prop where
 out : ∃ m es, H[l]? = some ⟨E, sz, es⟩ ∧ es.length = cnt ∧ a0_ (Own H (m + 1)) es rs f
 len : H.length = H0.length
 kept : ∀ x, x ∉ l :: f → H[x]? = H0[x]?
theorem w0_ {α : Type} (e : List α) (off : Nat) (a : α) (h : off < e.length) : e.take off ++ [a] ++ e.drop (off + 1) = e.set off a := by
 rw [List.set_eq_take_append_cons_drop, if_pos h]; simp
theorem MT.put {H0 : List Row} {l : Nat} {E : Tag} {sz cnt : Nat} {f : List Nat} {rs : List (List AV)} {H : List Row} {j off : Nat} {d : List AV} {v : Value} (h : MT H0 l E sz cnt f (rs.set j d) H) (hl : l ∉ f) (hj : j < rs.length) (ho : d[off]? = some (.val v)) :
 ∃ es e, H[l]? = some ⟨E, sz, es⟩ ∧ es.length = cnt ∧ es[j]? = some e ∧ off + 1 ≤ e.length ∧
  ∀ w, MT H0 l E sz cnt f (rs.set j (d.set off (.val w))) (H.set l ⟨E, sz, es.set j (e.take off ++ [.val w] ++ e.drop (off + 1))⟩) := by
 obtain ⟨⟨m, es, h1, h2, h3⟩, h4, h5⟩ := h
 have hd : (rs.set j d)[j]? = some d := by rw [List.getElem?_set_self hj]
 obtain ⟨e, f1, f2, f3, q1, q2, q3, q4⟩ := h3.split j hd
 obtain ⟨c, g1, g2, g3, p1, p2, p3, p4⟩ := q3.split off ho
 obtain ⟨rfl, rfl⟩ := p3.of_val
 have hlen : off < e.length := (List.getElem?_eq_some_iff.1 p1).1
 have hlt : l < H.length := (List.getElem?_eq_some_iff.1 h1).1
 refine ⟨es, e, h1, h2, q1, hlen, fun w => ⟨⟨m, _, List.getElem?_set_self hlt, by simpa using h2, ?_⟩, by simpa using h4, fun x hx => ?_⟩⟩
 ·rw [w0_ e off _ hlen]
  have hk : ∀ a r g, (∀ x ∈ g, x ∈ f) → Own H (m + 1) a r g → Own (H.set l ⟨E, sz, es.set j (e.set off (.val w))⟩) (m + 1) a r g := fun a r g hg ho => ho.keep fun x hx => by
   rw [List.getElem?_set_ne]; rintro rfl; exact hl (hg _ hx)
  have := q4 (Own (H.set l ⟨E, sz, es.set j (e.set off (.val w))⟩) (m + 1)) (e.set off (.val w)) (d.set off (.val w)) (fun a r g hg => hk a r g fun x hx => by
   rw [q2]; rcases hg x hx with q | q <;> simp [q]) (p4 _ _ _ (fun a r g hg => hk a r g fun x hx => by
   rw [q2, p2]; rcases hg x hx with q | q <;> simp [q]) (Own.mk_val _ _ _))
  rw [List.set_set] at this
  exact this
 ·rw [List.getElem?_set_ne (by rintro rfl; simp at hx)]
  exact h5 x hx
theorem MT.sub {H0 : List Row} {l : Nat} {E : Tag} {sz cnt : Nat} {f : List Nat} {rs : List (List AV)} {H : List Row} {j off s2 : Nat} {d : List AV} {es2 : List (List AV)} (h : MT H0 l E sz cnt f (rs.set j d) H) (hl : l ∉ f) (nd : f.Nodup) (hj : j < rs.length) (ho : d[off]? = some (.list 0 s2 es2)) :
 ∃ m es e c g, H[l]? = some ⟨E, sz, es⟩ ∧ es.length = cnt ∧ es[j]? = some e ∧ cY_ none (e.drop off) = some c ∧ Own H m c (.list 0 s2 es2) g ∧ g.Nodup ∧
  ∀ H' m' es3, H'.length = H.length → (∀ x, x ∉ g → H'[x]? = H[x]?) → Own H' m' c (.list 0 s2 es3) g → MT H0 l E sz cnt f (rs.set j (d.set off (.list 0 s2 es3))) H' := by
 obtain ⟨⟨m, es, h1, h2, h3⟩, h4, h5⟩ := h
 have hd : (rs.set j d)[j]? = some d := by rw [List.getElem?_set_self hj]
 obtain ⟨e, f1, f2, f3, q1, q2, q3, q4⟩ := h3.split j hd
 obtain ⟨c, g1, g2, g3, p1, p2, p3, p4⟩ := q3.split off ho
 obtain ⟨hlen, hc⟩ := List.getElem?_eq_some_iff.1 p1
 obtain ⟨hle, he⟩ := List.getElem?_eq_some_iff.1 q1
 subst p2 q2
 simp only [List.nodup_append, List.mem_append] at nd
 obtain ⟨n1, ⟨⟨m1, ⟨m2, m3, m4⟩, m5⟩, n3, n4⟩, n5⟩ := nd
 refine ⟨m + 1, es, e, c, g2, h1, h2, q1, by rw [List.drop_eq_getElem_cons hlen, hc]; rfl, p3, m2, fun H' m' es3 e1 e2 e3 => ?_⟩
 have hlg : l ∉ g2 := fun q => hl (by simp [q])
 have hkeep : ∀ M, m + 1 ≤ M → ∀ a r g, (∀ x ∈ g, x ∉ g2) → Own H (m + 1) a r g → Own H' M a r g := fun M hM a r g hg ho => Own.up hM (ho.keep fun x hx => e2 x (hg x hx))
 refine ⟨⟨m + m', es, by rw [e2 l hlg]; exact h1, h2, ?_⟩, by rw [e1]; exact h4, fun x hx => ?_⟩
 ·have := q4 (Own H' (m + m' + 1)) (e.set off c) (d.set off (.list 0 s2 es3)) (fun a r g hg => hkeep _ (by omega) a r g fun x hx hx2 => by
   rcases hg x hx with q | q
   ·exact n5 x q x (.inl (.inr (.inl hx2))) rfl
   ·exact n4 x (.inr (.inl hx2)) x q rfl) (p4 _ _ _ (fun a r g hg => hkeep _ (by omega) a r g fun x hx hx2 => by
   rcases hg x hx with q | q
   ·exact m5 x q x (.inl hx2) rfl
   ·exact m4 x hx2 x q rfl) (Own.up (by omega) e3))
  rw [List.set_set] at this
  have e4 : e.set off c = e := by rw [← hc]; exact List.set_getElem_self hlen
  have e5 : es.set j e = es := by rw [← he]; exact List.set_getElem_self hle
  rw [e4, e5] at this
  exact this
 ·rw [e2 x (fun q => hx (by simp [q]))]
  exact h5 x hx
theorem pA_ {P : Program} {F l n lo hi : Nat} {as : List AV} {H : List Row} {K : AV → List Row → Prop} {row : Row} (hl : H[l]? = some row) (hn : row.es.length = n) (hc : lo ≤ hi → hi ≤ n → callSem P F (.sub l n lo hi :: as) H K) : callSem P F (.sub l n lo hi :: as) H K := by
 intro S w vals hm hgl hr
 have hr' := hr
 simp only [ap_] at hr'
 obtain ⟨v, r, e, h1, h2⟩ := hr'
 simp only [Rep] at h1
 obtain ⟨_, i, q1, q2, q3⟩ := h1
 have q4 := (hm.rows l i row q1 hl).1
 obtain ⟨q5, q6, _⟩ := q3 (by omega)
 exact hc q5 q6 S w vals hm hgl hr
theorem p5_ {P : Program} {F l n : Nat} {as : List AV} {H : List Row} {K : AV → List Row → Prop} (hc : callSem P F (.sub l n 0 n :: as) H K) : callSem P F (.own l n :: as) H K := by
 intro S w vals hm hgl hr
 refine hc S w vals hm hgl ?_
 simp only [ap_] at hr ⊢
 obtain ⟨v, r, e, h1, h2⟩ := hr
 refine ⟨v, r, e, ?_, h2⟩
 simp only [Rep] at h1 ⊢
 obtain ⟨q0, i, q1, q2, q3⟩ := h1
 refine ⟨q0, i, q1, q2, fun q => ⟨Nat.zero_le _, Nat.le_refl _, ?_⟩⟩
 rcases q3 q with q4 | q4
 ·unfold sliceAt at q4
  split at q4
  ·rename_i b hb
   right
   exact ⟨b, 0, hb, by rw [q4, Nat.sub_zero, Nat.sub_zero, q], fun _ => by simp⟩
  ·rename_i hb
   left
   exact ⟨hb, none, q4⟩
 ·exact .inl q4
def vW_ (P : Program) (F : FuncId) (mt : Int → ByteArray) (fs : List Sch) : Prop :=
 ∀ (m : Nat) (a : AV) (es : List (List AV)) (f : List Nat) (H : List Row) (k : Int) (K : AV → List Row → Prop), Own H m a (.list 0 fs.length es) f → f.Nodup → (∀ e ∈ es, fr_ fs e) → 0 ≤ k → k + ep_ (ew_ fs) es ≤ 4611686018427387904 →
  (∀ H' m', H'.length = H.length → (∀ x, x ∉ f → H'[x]? = H[x]?) → Own H' m' a (.list 0 fs.length (cp_ (du_ mt fs) es k).1) f → K (.val (.int .i64 (cp_ (du_ mt fs) es k).2)) H') →
  callSem P F [a, .val (.int .i64 k)] H K
theorem vW_.of {P : Program} {F : FuncId} {mt : Int → ByteArray} {fs : List Sch}
 (hnil : ∀ (H : List Row) (k : Int) (K : AV → List Row → Prop), K (.val (.int .i64 k)) H → callSem P F [.val (.slice none 0 0), .val (.int .i64 k)] H K)
 (hsub : ∀ (l cnt lo hi : Nat) (E : Tag) (rs : List (List AV)) (f : List Nat) (H : List Row) (k : Int) (K : AV → List Row → Prop), MT H l E fs.length cnt f rs H → l ∉ f → f.Nodup → rs.length = cnt → lo ≤ hi → hi ≤ cnt → (∀ e ∈ (rs.take hi).drop lo, fr_ fs e) → 0 ≤ k → k + ep_ (ew_ fs) ((rs.take hi).drop lo) ≤ 4611686018427387904 →
   (∀ H' rs', MT H l E fs.length cnt f rs' H' → (rs'.take hi).drop lo = (cp_ (du_ mt fs) ((rs.take hi).drop lo) k).1 → K (.val (.int .i64 (cp_ (du_ mt fs) ((rs.take hi).drop lo) k).2)) H') → callSem P F [.sub l cnt lo hi, .val (.int .i64 k)] H K) : vW_ P F mt fs := by
 intro m a es f H k K ho nd hsh hk hb hK
 cases m with
 | zero => exact ho.elim
 | succ m =>
  have part : ∀ (l cnt lo hi : Nat) (row : Row) (es0 : List (List AV)) (f0 : List Nat), H[l]? = some row → row.es.length = cnt → a0_ (Own H m) row.es es0 f0 → row.sz = fs.length → es = (es0.take hi).drop lo → f = l :: f0 →
   (∀ H' m' row' es', H'.length = H.length → (∀ x, x ∉ f → H'[x]? = H[x]?) → H'[l]? = some row' → row'.es.length = cnt → row'.sz = fs.length → a0_ (Own H' m') row'.es es' f0 → (es'.take hi).drop lo = (cp_ (du_ mt fs) es k).1 → K (.val (.int .i64 (cp_ (du_ mt fs) es k).2)) H') →
   callSem P F [.sub l cnt lo hi, .val (.int .i64 k)] H K := by
   rintro l cnt lo hi ⟨E, sz, res⟩ es0 f0 h1 h2 h3 h4 rfl rfl hfin
   simp only at h2 h3 h4
   subst h4
   rw [List.nodup_cons] at nd
   refine pA_ h1 h2 fun hlo hhi => ?_
   refine hsub l cnt lo hi E es0 f0 H k K ⟨⟨m, res, h1, h2, h3.up (by omega)⟩, rfl, fun _ _ => rfl⟩ nd.1 nd.2 (by rw [h3.len, h2]) hlo hhi hsh hk hb ?_
   rintro H' rs' ⟨⟨m', res', g1, g2, g3⟩, g4, g5⟩ e
   exact hfin H' _ ⟨E, fs.length, res'⟩ rs' g4 g5 g1 g2 rfl g3 e
  cases a with
  | val v =>
   obtain ⟨rfl, e | ⟨rfl, sz, e⟩⟩ := ho
   ·cases e
   ·simp only [AV.list.injEq] at e
    obtain ⟨_, rfl, rfl⟩ := e
    refine hnil H k K (hK H 1 rfl (fun _ _ => rfl) ⟨rfl, .inr ⟨rfl, _, rfl⟩⟩)
  | own l cnt =>
   obtain ⟨row, es0, f0, h1, h2, h3, h4, h5⟩ := ho
   simp only [AV.list.injEq, true_and] at h4
   obtain ⟨h4, rfl⟩ := h4
   have hlen : es.length = cnt := by rw [h3.len, h2]
   refine p5_ (part l cnt 0 cnt row es f0 h1 h2 h3 h4.symm (by rw [List.drop_zero, List.take_of_length_le (by omega)]) h5 ?_)
   rintro H' m' row' es' e1 e2 e3 e4 e5 e6 e7
   have hlen' : es'.length = cnt := by rw [e6.len, e4]
   rw [List.drop_zero, List.take_of_length_le (by omega)] at e7
   subst e7
   exact hK H' (m' + 1) e1 e2 ⟨row', _, f0, e3, e4, e6, by rw [e5], h5⟩
  | sub l cnt lo hi =>
   obtain ⟨row, es0, f0, h1, h2, h3, h4, h5⟩ := ho
   simp only [AV.list.injEq, true_and] at h4
   obtain ⟨h4, rfl⟩ := h4
   refine part l cnt lo hi row es0 f0 h1 h2 h3 h4.symm rfl h5 ?_
   rintro H' m' row' es' e1 e2 e3 e4 e5 e6 e7
   exact hK H' (m' + 1) e1 e2 ⟨row', es', f0, e3, e4, e6, by rw [e5, e7], h5⟩
  | agg cs => obtain ⟨ds, _, e⟩ := ho; cases e
  | tup cs => obtain ⟨ds, _, e⟩ := ho; cases e
  | _ => exact ho.elim
theorem aP_.inv_nil {R : AV → AV → List Nat → Prop} {cs : List AV} {f : List Nat} (h : aP_ R cs [] f) : cs = [] ∧ f = [] := by
 cases cs with
 | nil => exact ⟨rfl, h.2⟩
 | cons c cs => obtain ⟨d, ds', g, g', e, _⟩ := h; cases e
theorem aP_.inv_cons {R : AV → AV → List Nat → Prop} {cs ds : List AV} {d : AV} {f : List Nat} (h : aP_ R cs (d :: ds) f) : ∃ c cs' g g', cs = c :: cs' ∧ f = g ++ g' ∧ R c d g ∧ aP_ R cs' ds g' := by
 cases cs with
 | nil => obtain ⟨e, _⟩ := h; cases e
 | cons c cs =>
  obtain ⟨d', ds', g, g', e, e2, h1, h2⟩ := h
  simp only [List.cons.injEq] at e
  obtain ⟨rfl, rfl⟩ := e
  exact ⟨c, cs, g, g', rfl, e2, h1, h2⟩
theorem aP_.inv_val {H : List Row} {m : Nat} {cs ds : List AV} {v : Value} {f : List Nat} (h : aP_ (Own H m) cs (.val v :: ds) f) : ∃ cs', cs = .val v :: cs' ∧ aP_ (Own H m) cs' ds f := by
 obtain ⟨c, cs', g, g', rfl, rfl, h1, h2⟩ := h.inv_cons
 obtain ⟨rfl, rfl⟩ := h1.of_val
 exact ⟨cs', rfl, h2⟩
theorem aP_.mk_val {H : List Row} {m : Nat} {cs ds : List AV} {f : List Nat} (v : Value) (h : aP_ (Own H (m + 1)) cs ds f) : aP_ (Own H (m + 1)) (.val v :: cs) (.val v :: ds) f := ⟨_, _, [], f, rfl, rfl, Own.mk_val _ _ _, h⟩
theorem Own.cell_list {H : List Row} {m : Nat} {c : AV} {tk sz : Nat} {es : List (List AV)} {g : List Nat} (h : Own H m c (.list tk sz es) g) : c.cell = true := by
 cases m with
 | zero => exact h.elim
 | succ m =>
  cases c with
  | val v => obtain ⟨_, e | ⟨rfl, _⟩⟩ := h
             ·cases e
             ·rfl
  | own l k => rfl
  | sub l k lo hi => rfl
  | agg cs => obtain ⟨_, _, e⟩ := h; cases e
  | tup cs => obtain ⟨_, _, e⟩ := h; cases e
  | _ => exact h.elim
theorem MT.elem {H0 : List Row} {l : Nat} {E : Tag} {sz cnt : Nat} {f : List Nat} {rs : List (List AV)} {H : List Row} {j : Nat} {d : List AV} (h : MT H0 l E sz cnt f rs H) (hl : l ∉ f) (nd : f.Nodup) (hd : rs[j]? = some d) :
 ∃ m es e f2, H[l]? = some ⟨E, sz, es⟩ ∧ es.length = cnt ∧ es[j]? = some e ∧ aP_ (Own H (m + 1)) e d f2 ∧ f2.Nodup ∧ l ∉ f2 ∧
  ∀ H' e' d', H'.length = H.length → H'[l]? = some ⟨E, sz, es.set j e'⟩ → (∀ x, x ∉ l :: f2 → H'[x]? = H[x]?) → (∃ m', aP_ (Own H' m') e' d' f2) → MT H0 l E sz cnt f (rs.set j d') H' := by
 obtain ⟨⟨m, es, h1, h2, h3⟩, h4, h5⟩ := h
 obtain ⟨e, f1, f2, f3, q1, q2, q3, q4⟩ := h3.split j hd
 subst q2
 simp only [List.nodup_append, List.mem_append] at nd
 obtain ⟨n1, ⟨n2, n3, n4⟩, n5⟩ := nd
 refine ⟨m, es, e, f2, h1, h2, q1, q3, n2, fun q => hl (by simp [q]), fun H' e' d' e1 e2 e3 ⟨m', e4⟩ => ⟨⟨m + m', _, e2, by simpa using h2, ?_⟩, by rw [e1, h4], fun x hx => ?_⟩⟩
 ·refine q4 (Own H' (m + m' + 1)) e' d' (fun a r g hg ho => Own.up (by omega) (ho.keep fun x hx => e3 x ?_)) (aP_.up (by omega) e4)
  rw [List.mem_cons]
  rintro (rfl | q)
  ·exact hl (by rcases hg _ hx with q | q <;> simp [q])
  ·rcases hg x hx with q' | q'
   ·exact n5 x q' x (.inl q) rfl
   ·exact n4 x q x q' rfl
 ·rw [e3 x (fun q => hx (by rcases List.mem_cons.1 q with q | q <;> simp [q]))]
  exact h5 x hx
section
variable (mt : Int → ByteArray)
end
variable {mt : Int → ByteArray}
theorem tf_ {g : List AV → Int → Int} {e : List AV} {es : List (List AV)} {k : Int} (h : g e k = -1) : fN_ g (e :: es) k = -1 := by
 simp only [fN_]; rw [if_pos (by omega)]
theorem sy_ {g : List AV → Int → Int} {e : List AV} {es : List (List AV)} {k z : Int} (h : g e k = z) (hz : 0 ≤ z) : fN_ g (e :: es) k = fN_ g es z := by
 simp only [fN_]; rw [h, if_neg (by omega)]
theorem u6_ {g : List AV → Int → Int} {c : List AV → Nat} {es : List (List AV)} (hg : ∀ e ∈ es, ∀ k, 0 ≤ k → g e k = -1 ∨ g e k = k + c e) (k : Int) (hk : 0 ≤ k) : fN_ g es k = -1 ∨ fN_ g es k = k + ep_ c es := by
 induction es generalizing k with
 | nil => right; simp [fN_, ep_]
 | cons e es ih =>
  rcases hg e (by simp) k hk with q | q
  ·left; exact tf_ q
  ·rw [sy_ q (by omega)]
   rcases ih (fun x hx => hg x (by simp [hx])) (k + c e) (by omega) with p | p
   ·exact .inl p
   ·right; rw [p, ep_]; omega
mutual
theorem tl_ : ∀ (s : Sch) (a : AV) (k : Int), c5_ s a → 0 ≤ k → er_ mt s a k = -1 ∨ er_ mt s a k = k + bn_ s a
 | .int, a, k, h, hk => by
  unfold c5_ at h; obtain ⟨n, rfl⟩ := h
  simp only [er_, bn_]; split <;> simp
 | .str, a, k, h, hk => by
  unfold c5_ at h; obtain ⟨n, rfl⟩ := h
  simp only [er_, bn_]; split <;> simp
 | .bool, a, k, h, hk => by
  unfold c5_ at h; obtain ⟨n, rfl⟩ := h
  simp only [er_, bn_]; split <;> simp
 | .list fs, a, k, h, hk => by
  unfold c5_ at h
  obtain ⟨es, rfl, h⟩ := h
  simp only [er_, bn_]
  exact u6_ (fun e he k hk => qE_ fs e k (h e he) hk) k hk
theorem qE_ : ∀ (fs : List Sch) (cs : List AV) (k : Int), fr_ fs cs → 0 ≤ k → jE_ mt fs cs k = -1 ∨ jE_ mt fs cs k = k + ew_ fs cs
 | [], cs, k, _, hk => by simp [jE_, ew_]
 | s :: ss, cs, k, h, hk => by
  unfold fr_ at h
  obtain ⟨c, r, rfl, h1, h2⟩ := h
  simp only [jE_, ew_]
  rcases tl_ s c k h1 hk with q | q
  ·left; rw [q, if_pos (by omega)]
  ·rw [q, if_neg (by omega)]
   rcases qE_ ss r (k + bn_ s c) h2 (by omega) with p | p
   ·exact .inl p
   ·right; rw [p]; omega
end
structure aA_ (lo hi : Nat) (H : List Row) (a r : AV) : Prop where
 out : ∃ n fs, Own H n a r fs ∧ fs.Nodup ∧ ∀ l ∈ fs, lo ≤ l ∧ l < hi
structure aw_ (lo hi : Nat) (H : List Row) (as rs : List AV) : Prop where
 out : ∃ n fs, aP_ (Own H n) as rs fs ∧ fs.Nodup ∧ ∀ l ∈ fs, lo ≤ l ∧ l < hi
structure bI_ (lo hi : Nat) (H : List Row) (es rs : List (List AV)) : Prop where
 out : ∃ n fs, a0_ (Own H n) es rs fs ∧ fs.Nodup ∧ ∀ l ∈ fs, lo ≤ l ∧ l < hi
section
variable {lo hi mid : Nat} {H H' : List Row} {a r : AV} {as rs as' rs' : List AV} {es ds : List (List AV)}
theorem fb_.b (h : fb_ lo H a r) : aA_ lo H.length H a r := by
 obtain ⟨n, fs, h1, h2, h3⟩ := h
 exact ⟨n, fs, h1, h2, fun l hl => ⟨h3 l hl, h1.lt l hl⟩⟩
theorem aA_.fresh (h : aA_ lo hi H a r) : fb_ lo H a r := by
 obtain ⟨n, fs, h1, h2, h3⟩ := h
 exact ⟨n, fs, h1, h2, fun l hl => (h3 l hl).1⟩
theorem aA_.keep (hk : ∀ l, lo ≤ l → l < hi → H'[l]? = H[l]?) (h : aA_ lo hi H a r) : aA_ lo hi H' a r := by
 obtain ⟨n, fs, h1, h2, h3⟩ := h
 exact ⟨n, fs, h1.keep fun l hl => hk l (h3 l hl).1 (h3 l hl).2, h2, h3⟩
theorem aw_.keep (hk : ∀ l, lo ≤ l → l < hi → H'[l]? = H[l]?) (h : aw_ lo hi H as rs) : aw_ lo hi H' as rs := by
 obtain ⟨n, fs, h1, h2, h3⟩ := h
 exact ⟨n, fs, aP_.mono (fun a r g hg ho => ho.keep fun l hl => hk l (h3 l (hg l hl)).1 (h3 l (hg l hl)).2) h1, h2, h3⟩
theorem bI_.keep (hk : ∀ l, lo ≤ l → l < hi → H'[l]? = H[l]?) (h : bI_ lo hi H es ds) : bI_ lo hi H' es ds := by
 obtain ⟨n, fs, h1, h2, h3⟩ := h
 exact ⟨n, fs, a0_.mono (fun a r g hg ho => ho.keep fun l hl => hk l (h3 l (hg l hl)).1 (h3 l (hg l hl)).2) h1, h2, h3⟩
theorem aA_.widen {lo' hi' : Nat} (h1 : lo' ≤ lo) (h2 : hi ≤ hi') (h : aA_ lo hi H a r) : aA_ lo' hi' H a r := by
 obtain ⟨n, fs, q1, q2, q3⟩ := h
 exact ⟨n, fs, q1, q2, fun l hl => by have := q3 l hl; omega⟩
theorem aw_.widen {lo' hi' : Nat} (h1 : lo' ≤ lo) (h2 : hi ≤ hi') (h : aw_ lo hi H as rs) : aw_ lo' hi' H as rs := by
 obtain ⟨n, fs, q1, q2, q3⟩ := h
 exact ⟨n, fs, q1, q2, fun l hl => by have := q3 l hl; omega⟩
theorem bI_.widen {lo' hi' : Nat} (h1 : lo' ≤ lo) (h2 : hi ≤ hi') (h : bI_ lo hi H es ds) : bI_ lo' hi' H es ds := by
 obtain ⟨n, fs, q1, q2, q3⟩ := h
 exact ⟨n, fs, q1, q2, fun l hl => by have := q3 l hl; omega⟩
theorem aA_.mknil (lo hi : Nat) (H : List Row) (sz : Nat) : aA_ lo hi H (.val (.slice none 0 0)) (.list 0 sz []) := ⟨1, [], ⟨rfl, .inr ⟨rfl, _, rfl⟩⟩, List.nodup_nil, by simp⟩
theorem aw_.nil (lo hi : Nat) (H : List Row) : aw_ lo hi H [] [] := ⟨0, [], ⟨rfl, rfl⟩, List.nodup_nil, by simp⟩
theorem bI_.nil (lo hi : Nat) (H : List Row) : bI_ lo hi H [] [] := ⟨0, [], ⟨rfl, rfl⟩, List.nodup_nil, by simp⟩
theorem aw_.cons (h1 : aA_ lo mid H a r) (h2 : aw_ mid hi H as rs) (hm : lo ≤ mid ∧ mid ≤ hi) : aw_ lo hi H (a :: as) (r :: rs) := by
 obtain ⟨n, fs, p1, p2, p3⟩ := h1
 obtain ⟨m, gs, q1, q2, q3⟩ := h2
 refine ⟨n + m, fs ++ gs, ⟨r, rs, fs, gs, rfl, rfl, Own.up (by omega) p1, aP_.up (by omega) q1⟩, ?_, fun l hl => ?_⟩
 ·rw [List.nodup_append]
  exact ⟨p2, q2, fun x hx y hy => by have := p3 x hx; have := q3 y hy; omega⟩
 ·rcases List.mem_append.1 hl with q | q
  ·have := p3 l q; omega
  ·have := q3 l q; omega
theorem aw_.val (v : Value) (h2 : aw_ lo hi H as rs) : aw_ lo hi H (.val v :: as) (.val v :: rs) := by
 obtain ⟨m, gs, q1, q2, q3⟩ := h2
 exact ⟨m + 1, gs, ⟨.val v, rs, [], gs, rfl, rfl, Own.mk_val _ _ _, aP_.up (by omega) q1⟩, q2, q3⟩
theorem bI_.snoc (h1 : bI_ lo mid H es ds) (h2 : aw_ mid hi H as rs) (hm : lo ≤ mid ∧ mid ≤ hi) : bI_ lo hi H (es ++ [as]) (ds ++ [rs]) := by
 obtain ⟨n, fs, p1, p2, p3⟩ := h1
 obtain ⟨m, gs, q1, q2, q3⟩ := h2
 refine ⟨n + m, fs ++ gs, ?_, ?_, fun l hl => ?_⟩
 ·have p1' := a0_.up (Nat.le_add_right n m) p1
  have q1' := aP_.up (Nat.le_add_left m n) q1
  clear p1 q1 p2 p3 q2 q3
  induction es generalizing ds fs with
  | nil =>
   obtain ⟨rfl, rfl⟩ := p1'
   exact ⟨rs, [], gs, [], rfl, by simp, q1', rfl, rfl⟩
  | cons e es ih =>
   obtain ⟨d, ds', f, f', rfl, rfl, g1, g2⟩ := p1'
   exact ⟨d, ds' ++ [rs], f, f' ++ gs, rfl, by simp, g1, ih _ g2⟩
 ·rw [List.nodup_append]
  exact ⟨p2, q2, fun x hx y hy => by have := p3 x hx; have := q3 y hy; omega⟩
 ·rcases List.mem_append.1 hl with q | q
  ·have := p3 l q; omega
  ·have := q3 l q; omega
theorem aA_.agg (h : aw_ lo hi H as rs) : aA_ lo hi H (.agg as) (.agg rs) := by
 obtain ⟨n, fs, p1, p2, p3⟩ := h
 exact ⟨n + 1, fs, ⟨rs, p1, rfl⟩, p2, p3⟩
theorem aA_.tup (h : aw_ lo hi H as rs) : aA_ lo hi H (.tup as) (.tup rs) := by
 obtain ⟨n, fs, p1, p2, p3⟩ := h
 exact ⟨n + 1, fs, ⟨rs, p1, rfl⟩, p2, p3⟩
theorem aA_.unagg (h : aA_ lo hi H (.agg as) (.agg rs)) : aw_ lo hi H as rs := by
 obtain ⟨n, fs, p1, p2, p3⟩ := h
 cases n with
 | zero => exact p1.elim
 | succ n =>
  obtain ⟨ds, q1, q2⟩ := p1
  cases q2
  exact ⟨n, fs, q1, p2, p3⟩
theorem aA_.untup (h : aA_ lo hi H (.tup as) (.tup rs)) : aw_ lo hi H as rs := by
 obtain ⟨n, fs, p1, p2, p3⟩ := h
 cases n with
 | zero => exact p1.elim
 | succ n =>
  obtain ⟨ds, q1, q2⟩ := p1
  cases q2
  exact ⟨n, fs, q1, p2, p3⟩
theorem aA_.mkown {lo' l k : Nat} {E : Tag} {sz : Nat} (h : bI_ lo hi H es ds) (hl : H[l]? = some ⟨E, sz, es⟩) (hk : es.length = k) (h1 : lo' ≤ l) (h2 : l < lo) (h3 : lo ≤ hi) : aA_ lo' hi H (.own l k) (.list 0 sz ds) := by
 obtain ⟨n, fs, p1, p2, p3⟩ := h
 refine ⟨n + 1, l :: fs, ⟨⟨E, sz, es⟩, ds, fs, hl, hk, p1, rfl, rfl⟩, ?_, fun x hx => ?_⟩
 ·rw [List.nodup_cons]
  exact ⟨fun q => by have := p3 l q; omega, p2⟩
 ·rcases List.mem_cons.1 hx with q | q
  ·subst q; omega
  ·have := p3 x q; omega
theorem bI_.ofVals (lo hi : Nat) (H : List Row) : ∀ (es : List (List AV)), (∀ e ∈ es, ∀ c ∈ e, ∃ v, c = .val v) → bI_ lo hi H es es
 | [], _ => .nil lo hi H
 | e :: es, h => by
  obtain ⟨n, fs, p1, p2, p3⟩ := bI_.ofVals lo hi H es (fun x hx => h x (by simp [hx]))
  have he : ∀ (cs : List AV), (∀ c ∈ cs, ∃ v, c = .val v) → aP_ (Own H (n + 1)) cs cs [] := by
   intro cs
   induction cs with
   | nil => intro _; exact ⟨rfl, rfl⟩
   | cons c cs ih =>
    intro hc
    obtain ⟨v, rfl⟩ := hc c (by simp)
    exact ⟨_, _, [], [], rfl, rfl, Own.mk_val _ _ _, ih fun x hx => hc x (by simp [hx])⟩
  exact ⟨n + 1, fs, ⟨e, es, [], fs, rfl, rfl, he e (h e (by simp)), a0_.up (by omega) p1⟩, p2, p3⟩
theorem aA_.arg (h : aA_ lo hi H a r) : cT_ H a r := by
 obtain ⟨n, fs, h1, _⟩ := h
 exact .inr ⟨n, fs, h1⟩
theorem ca_.two {b q : AV} (h1 : cT_ H a r) (h2 : cT_ H b q) : ca_ H [a, b] [r, q] := ⟨_, _, rfl, h1, _, _, rfl, h2, rfl⟩
theorem ca_.one (h1 : cT_ H a r) : ca_ H [a] [r] := ⟨_, _, rfl, h1, rfl⟩
theorem cT_.same (hp : a.plain = true) : cT_ H a a := .inl ⟨rfl, hp⟩
theorem ca_.cons (h1 : cT_ H a r) (h2 : ca_ H as rs) : ca_ H (a :: as) (r :: rs) := ⟨_, _, rfl, h1, h2⟩
theorem ca_.nil : ca_ H [] [] := rfl
end
theorem rd_ {P : Program} {f : FuncId} {args : List AV} {R : AV → Prop} (D : AV → List Row → AV → Prop) (hD : ∀ (S : Sit) (h : List Row) (w : World) (a r : AV) (x : Value), al_ S h w → Rep S a x → D a h r → Rep (S.shut w) r x) (hp : args.all AV.plain = true) (hw : callSem P f args [] fun av h' => ∃ r, D av h' r ∧ R r) (h : List Row) (K : AV → List Row → Prop) (hk : ∀ r, R r → K r h) : callSem P f args h K := by
 intro S w vals hm hgl hr
 have hm0 : al_ S.still [] w := ⟨hm.imm, rfl, by simp [Sit.still], by simp [Sit.still]⟩
 refine (hw S.still w vals hm0 hgl (gp_ hp hr)).mono ?_
 rintro e w' ⟨v, av, S1, h1, rfl, st, hm1, rv, r, hres, hR⟩
 have rr := hD S1 h1 w' av r v hm1 rv hres
 have hnone : ∀ b, ¬ S.still.owns b := by
  rintro b ⟨l, i, q, _⟩
  simp [Sit.still] at q
 have hblk : ∀ b, b < w.heap.size → w'.heap[b]? = w.heap[b]? := fun b hb => st.block b hb (hnone b)
 have hown1 : ∀ b, S1.owns b → w.heap.size ≤ b := fun b hb => by
  rcases st.ownNew b hb with q | q
  ·exact absurd q (hnone b)
  ·exact q
 have himm1 : ∀ b c, S1.imm b = some c → S.imm b = some c ∨ w.heap.size ≤ b := fun b c hb => by
  rcases st.immNew b c hb with q | q | q
  ·exact .inl q
  ·exact absurd q (hnone b)
  ·exact .inr q
 have hshut : ∀ b c, (S1.shut w').imm b = some c → S.imm b = some c ∨ w.heap.size ≤ b := by
  intro b c hb
  simp only [Sit.shut] at hb
  split at hb
  ·rename_i hq
   exact .inr (hown1 b (dP_.1 hq))
  ·exact himm1 b c hb
 have hle : S.le { imm := (S1.shut w').imm, rows := S.rows } := by
  refine ⟨fun b c e => ?_, fun l i e => ⟨i, e, Nat.le_refl _, fun _ => rfl⟩⟩
  exact (hv_ hm1).imm b c (st.le.imm b c e)
 refine ⟨v, r, { imm := (S1.shut w').imm, rows := S.rows }, h, rfl, ⟨hle, st.os, st.tape, st.output, st.size, fun b hb _ => hblk b hb, fun b q => .inl q, fun b c q => ?_⟩, ⟨fun b c q => ?_, hm.len, fun l i rw q1 q2 => ?_, hm.one⟩, ?_, hk r hR⟩
 ·rcases hshut b c q with q | q
  ·exact .inl q
  ·exact .inr (.inr q)
 ·simp only [Sit.shut] at q
  split at q
  ·split at q
   ·rename_i c' E fr hb
    simp at q; subst q
    exact ⟨E, fr, hb⟩
   ·simp at q
  ·exact hm1.imm b c q
 ·obtain ⟨k1, k2, k3, k4⟩ := hm.rows l i rw q1 q2
  refine ⟨k1, k2, k3, ?_⟩
  cases hb : i.blk with
  | none => rw [hb] at k4; exact k4
  | some b =>
   rw [hb] at k4
   have j1 := k4.1
   have hlt := hm.ownLt ⟨l, i, q1, hb⟩
   refine ⟨?_, k4.2.le hle (hblk b hlt)⟩
   cases q : (S1.shut w').imm b with
   | none => rfl
   | some d =>
    rcases hshut b d q with q' | q'
    ·rw [j1] at q'; cases q'
    ·omega
 ·have hl2 : (S1.shut w').le { imm := (S1.shut w').imm, rows := S.rows } := ⟨fun _ _ e => e, by simp [Sit.shut]⟩
  exact Rep.up hl2 _ _ rr
theorem aS_.pure {P : Program} {f : FuncId} {args : List AV} {r : AV} {Q : AV → Prop} (hc : aS_ P f args r Q) (hp : args.all AV.plain = true) (h : List Row) : aa_ P f args h r := by
 intro K hk
 refine rd_ (R := fun x => x = r) (fun a h r => ∃ n fs, Own h n a r fs) (fun S h w a r x hm rx ⟨n, fs, ho⟩ => Own.rep hm n a x r fs rx ho) hp ?_ h K (by rintro _ rfl; exact hk)
 refine hc [] _ (fun av hn hf hq => ?_)
 obtain ⟨n, fs, h1, _⟩ := hf
 exact ⟨r, ⟨n, fs, h1⟩, rfl⟩
theorem aa_.own {P : Program} {f : FuncId} {as rs : List AV} {H : List Row} {v : Value} (hc : ∀ h, aa_ P f rs h (.val v)) (ha : ca_ H as rs) : aa_ P f as H (.val v) := fun _ hk => pw_ hc ha hk
theorem aw_.app {lo mid hi : Nat} {H : List Row} {as rs as' rs' : List AV} (h1 : aw_ lo mid H as rs) (h2 : aw_ mid hi H as' rs') (hm : lo ≤ mid ∧ mid ≤ hi) : aw_ lo hi H (as ++ as') (rs ++ rs') := by
 obtain ⟨n, fs, p1, p2, p3⟩ := h1
 obtain ⟨m, gs, q1, q2, q3⟩ := h2
 refine ⟨n + m, fs ++ gs, ?_, ?_, fun l hl => ?_⟩
 ·have p1' := aP_.up (Nat.le_add_right n m) p1
  have q1' := aP_.up (Nat.le_add_left m n) q1
  clear p1 q1 p2 p3 q2 q3
  induction as generalizing rs fs with
  | nil =>
   obtain ⟨rfl, rfl⟩ := p1'
   exact q1'
  | cons e es ih =>
   obtain ⟨d, ds', f, f', rfl, rfl, g1, g2⟩ := p1'
   exact ⟨d, ds' ++ rs', f, f' ++ gs, rfl, by simp, g1, ih _ g2⟩
 ·rw [List.nodup_append]
  exact ⟨p2, q2, fun x hx y hy => by have := p3 x hx; have := q3 y hy; omega⟩
 ·rcases List.mem_append.1 hl with q | q
  ·have := p3 l q; omega
  ·have := q3 l q; omega
structure FB (lo hi : Nat) (H : List Row) (a r : AV) : Prop where
 tree : aA_ lo hi H a r
 le : hi ≤ H.length
structure aM_ (H H' : List Row) : Prop where
 len : H.length ≤ H'.length
 kept : ∀ l, l < H.length → H'[l]? = H[l]?
structure But (fs : List Nat) (H H' : List Row) : Prop where
 len : H.length ≤ H'.length
 kept : ∀ l, l < H.length → l ∉ fs → H'[l]? = H[l]?
section
variable {lo hi : Nat} {H H' : List Row} {a r : AV} {fs : List Nat}
theorem aM_.at {i : Nat} {row : Row} (m : aM_ H H') (o : H[i]? = some row) : H'[i]? = some row := (m.kept i (List.getElem?_eq_some_iff.1 o).1).trans o
theorem aM_.row (H : List Row) (row : Row) : aM_ H (H ++ [row]) := ⟨by simp, fun l hl => List.getElem?_append_left hl⟩
theorem aM_.trans {H'' : List Row} (h : aM_ H H') (k : aM_ H' H'') : aM_ H H'' := ⟨Nat.le_trans h.len k.len, fun l hl => (k.kept l (Nat.lt_of_lt_of_le hl h.len)).trans (h.kept l hl)⟩
theorem But.at {i : Nat} {row : Row} (m : But fs H H') (o : H[i]? = some row) (h : i ∉ fs) : H'[i]? = some row := (m.kept i (List.getElem?_eq_some_iff.1 o).1 h).trans o
end
theorem qA_ (H : List Row) (r : Row) : (H ++ [r])[H.length]? = some r := by rw [cL_]; rfl
theorem rD_ {P : Program} {f : FuncId} {as rs : List AV} {H : List Row} {r : AV} {Q : AV → Prop} (hc : aS_ P f rs r Q) (ha : ca_ H as rs) {K : AV → List Row → Prop} (hk : ∀ av H', aM_ H H' → FB H.length H'.length H' av r → Q av → K av H') : callSem P f as H K :=
 sx_ hc ha fun av hn hf hq => hk av (H ++ hn) ⟨by simp, fun l hl => List.getElem?_append_left hl⟩ ⟨hf.b, Nat.le_refl _⟩ hq
theorem bU_ {P : Program} {f : FuncId} {as : List AV} {H : List Row} {r : AV} {Q : AV → Prop} (hc : aS_ P f as r Q) {K : AV → List Row → Prop} (hk : ∀ av H', aM_ H H' → FB H.length H'.length H' av r → Q av → K av H') : callSem P f as H K :=
 hc H K fun av hn hf hq => hk av (H ++ hn) ⟨by simp, fun l hl => List.getElem?_append_left hl⟩ ⟨hf.b, Nat.le_refl _⟩ hq
theorem FB.two {lo hi : Nat} {H : List Row} {a r : AV} {v u : Value} (h : FB lo hi H (.tup [a, .val v]) (.tup [r, .val u])) : FB lo hi H a r ∧ (.val v = AV.val u) := by
 have h4 := h.le
 obtain ⟨n, fs, h1, h2, h3⟩ := h.tree.untup
 obtain ⟨d, ds, f, f', e1, rfl, q1, q2⟩ := h1
 simp only [List.cons.injEq] at e1
 obtain ⟨rfl, rfl⟩ := e1
 obtain ⟨d, ds, f2, f3, e1, rfl, q3, q4⟩ := q2
 simp only [List.cons.injEq] at e1
 obtain ⟨rfl, rfl⟩ := e1
 obtain ⟨_, rfl⟩ := q4
 obtain ⟨rfl, e⟩ := q3.of_val
 refine ⟨⟨⟨n, f, q1, (List.nodup_append.1 h2).1, fun l hl => h3 l (List.mem_append_left _ hl)⟩, h4⟩, e⟩
theorem FB.arg {lo hi : Nat} {H : List Row} {a r : AV} (h : FB lo hi H a r) : cT_ H a r := h.tree.arg
variable {mt : Int → ByteArray}
theorem de_ {t : Nat → AV} {h : List Row} (a s : Nat) (n : Option Nat) (K : AV → List Row → Prop) : cu_ [.cell a n, .tmp s] K .ret t h = match as_ t h (.load n (.tmp a)) with | some av => K (.tup [av, t s]) h | none => False := by
 simp only [cu_, dH_, List.mapM_cons, List.mapM_nil]
 cases as_ t h (.load n (.tmp a)) <;> simp [cS_]
theorem pL_ {α : Type} {es : List α} {i : Nat} {x : α} (h : es[i]? = some x) : es.set i x = es := by
 obtain ⟨hi, e⟩ := List.getElem?_eq_some_iff.1 h
 subst e
 exact List.set_getElem_self hi
def Cv (L : Nat) (a b : AV) : Prop := b = a ∨ (a = .val (.slice none 0 0) ∧ b = .own L 0)
def CvL (L : Nat) : List AV → List AV → Prop
 | [], bs => bs = []
 | a :: as, bs => ∃ b r, bs = b :: r ∧ Cv L a b ∧ CvL L as r
def d4_ (L : Nat) : List (List AV) → List (List AV) → Prop
 | [], bs => bs = []
 | a :: as, bs => ∃ b r, bs = b :: r ∧ CvL L a b ∧ d4_ L as r
theorem CvL.len {L : Nat} : ∀ {as bs : List AV}, CvL L as bs → bs.length = as.length
 | [], bs, h => by unfold CvL at h; subst h; rfl
 | a :: as, bs, h => by
  unfold CvL at h
  obtain ⟨b, r, rfl, _, h2⟩ := h
  simp [h2.len]
theorem CvL.refl (L : Nat) : ∀ as : List AV, CvL L as as
 | [] => rfl
 | a :: as => ⟨a, as, rfl, .inl rfl, CvL.refl L as⟩
theorem d4_.refl (L : Nat) : ∀ as : List (List AV), d4_ L as as
 | [] => rfl
 | a :: as => ⟨a, as, rfl, CvL.refl L a, d4_.refl L as⟩
theorem d4_.len {L : Nat} : ∀ {as bs : List (List AV)}, d4_ L as bs → bs.length = as.length
 | [], bs, h => by unfold d4_ at h; subst h; rfl
 | a :: as, bs, h => by
  unfold d4_ at h
  obtain ⟨b, r, rfl, _, h2⟩ := h
  simp [h2.len]
theorem d4_.all {L sz : Nat} : ∀ {as bs : List (List AV)}, d4_ L as bs → (∀ e ∈ as, e.length = sz) → ∀ e ∈ bs, e.length = sz
 | [], bs, h, _ => by unfold d4_ at h; subst h; simp
 | a :: as, bs, h, hs => by
  unfold d4_ at h
  obtain ⟨b, r, rfl, h1, h2⟩ := h
  intro e he
  rcases List.mem_cons.1 he with q | q
  ·subst q; rw [h1.len]; exact hs a (by simp)
  ·exact h2.all (fun x hx => hs x (by simp [hx])) e q
section
variable {S S' : Sit} {L sz : Nat} (hle : S.le S') (hL : S'.rows[L]? = some ⟨0, none, 0, sz⟩)
include hle hL
theorem Cv.rep {a b : AV} {x : Value} (h : Cv L a b) (r : Rep S a x) : Rep S' b x := by
 rcases h with rfl | ⟨rfl, rfl⟩
 ·exact Rep.up hle _ _ r
 ·simp only [Rep] at r ⊢
  subst r
  exact ⟨⟨_, _, _, rfl⟩, _, hL, Nat.le_refl _, fun _ => .inl rfl⟩
theorem CvL.repPre : ∀ {as bs : List AV} {vs : List Value}, CvL L as bs → aG_ S as vs → aG_ S' bs vs
 | [], bs, vs, h, r => by unfold CvL at h; subst h; simp [aG_]
 | a :: as, bs, vs, h, r => by
  unfold CvL at h
  obtain ⟨b, q, rfl, h1, h2⟩ := h
  simp only [aG_] at r ⊢
  obtain ⟨v, w, e, r1, r2⟩ := r
  exact ⟨v, w, e, h1.rep hle hL r1, CvL.repPre h2 r2⟩
theorem d4_.rep : ∀ {as bs : List (List AV)} {vs : List Value}, d4_ L as bs → aB_ S as vs → aB_ S' bs vs
 | [], bs, vs, h, r => by unfold d4_ at h; subst h; simp [aB_]
 | a :: as, bs, vs, h, r => by
  unfold d4_ at h
  obtain ⟨b, q, rfl, h1, h2⟩ := h
  simp only [aB_] at r ⊢
  exact ⟨h1.repPre hle hL r.1, by rw [h1.len]; exact d4_.rep h2 r.2⟩
end
theorem nF_ {N : Nat} {t t' : Nat → AV} {h h' : List Row} (E : Tag) (hE : ∃ T, E = .ty T) (sz : Nat) (ht : ∀ k, Cv h.length (t k) (t' k)) (hlen : h'.length = h.length + 1) (hnew : h'[h.length]? = some ⟨E, sz, []⟩)
 (hrow : ∀ l r', l < h.length → h'[l]? = some r' → ∃ r, h[l]? = some r ∧ r'.E = r.E ∧ r'.sz = r.sz ∧ d4_ h.length r.es r'.es) : h3_ N t h t' h' := by
 intro S w a hm hr
 have hl := hm.len
 have hle : S.le { imm := S.imm, rows := S.rows ++ [⟨0, none, 0, sz⟩] } := ⟨fun _ _ e => e, fun l i e => ⟨i, by
  show (S.rows ++ _)[l]? = _
  rw [List.getElem?_append_left (List.getElem?_eq_some_iff.1 e).1]; exact e, Nat.le_refl _, fun _ => rfl⟩⟩
 have hL : ({ imm := S.imm, rows := S.rows ++ [⟨0, none, 0, sz⟩] } : Sit).rows[h.length]? = some ⟨0, none, 0, sz⟩ := by
  show (S.rows ++ _)[h.length]? = _
  rw [← hl, List.getElem?_append_right (Nat.le_refl _), Nat.sub_self]; rfl
 have hcase : ∀ (l : Nat) (i : b0_), (S.rows ++ [⟨0, none, 0, sz⟩])[l]? = some i → (l < h.length ∧ S.rows[l]? = some i) ∨ (l = h.length ∧ i = ⟨0, none, 0, sz⟩) := by
  intro l i q
  by_cases hlt : l < h.length
  ·left; rw [List.getElem?_append_left (by omega)] at q; exact ⟨hlt, q⟩
  ·right
   have h2 := (List.getElem?_eq_some_iff.1 q).1
   simp only [List.length_append, List.length_cons, List.length_nil] at h2
   have e : l = h.length := by omega
   subst e
   refine ⟨rfl, ?_⟩
   rw [← hl, List.getElem?_append_right (Nat.le_refl _), Nat.sub_self] at q
   simpa using q.symm
 refine ⟨{ imm := S.imm, rows := S.rows ++ [⟨0, none, 0, sz⟩] }, ⟨hle, rfl, rfl, rfl, Nat.le_refl _, fun _ _ _ => rfl, ?_, fun b c q => .inl q⟩, ⟨hm.imm, by simp [hl, hlen], ?_, ?_⟩, ⟨hr.1, hr.2.1, fun k hk => (ht k).rep hle hL (hr.2.2 k hk)⟩⟩
 ·rintro b ⟨l, i, q1, q2⟩
  rcases hcase l i q1 with ⟨_, q⟩ | ⟨_, q⟩
  ·exact .inl ⟨l, i, q, q2⟩
  ·subst q; simp at q2
 ·intro l i r' q1 q2
  rcases hcase l i q1 with ⟨hlt, q⟩ | ⟨rfl, rfl⟩
  ·obtain ⟨r, e1, e2, e3, e4⟩ := hrow l r' hlt q2
   obtain ⟨k1, k2, k3, k4⟩ := hm.rows l i r q e1
   refine ⟨by rw [e4.len]; exact k1, by rw [e3]; exact k2, by rw [e3]; exact e4.all k3, ?_⟩
   cases hb : i.blk with
   | none =>
    rw [hb] at k4
    obtain ⟨k4, k5⟩ := k4
    rw [k4] at e4
    exact ⟨e4, k5⟩
   | some b =>
    rw [hb] at k4
    refine ⟨k4.1, ?_⟩
    have k5 := k4.2
    unfold bj_ at k5 ⊢
    rw [e2]
    split at k5
    ·rename_i T hT
     obtain ⟨c, j1, j2, j3⟩ := k5
     exact ⟨c, j1, e4.rep hle hL j2, j3⟩
    ·rename_i ents hT
     obtain ⟨j1, j2, j3⟩ := k5
     rw [j1] at e4
     exact ⟨e4, by rw [e3]; exact j2, j3⟩
    ·rename_i T hT
     obtain ⟨⟨c, j1, j2, j3⟩, j4⟩ := k5
     exact ⟨⟨c, j1, e4.rep hle hL j2, j3⟩, j4⟩
  ·rw [hnew] at q2
   obtain rfl := Option.some.inj q2
   exact ⟨rfl, rfl, by simp, rfl, rfl⟩
 ·intro l l' i i' b q1 q1' q2 q2'
  rcases hcase l i q1 with ⟨_, q⟩ | ⟨_, rfl⟩
  ·rcases hcase l' i' q1' with ⟨_, q'⟩ | ⟨_, rfl⟩
   ·exact hm.one l l' i i' b q q' q2 q2'
   ·simp at q2'
  ·simp at q2
theorem t0_ {N : Nat} {t : Nat → AV} {h : List Row} : h3_ N t h t h := fun S w a hm hr => ⟨S, .refl S w, hm, hr⟩
theorem sk_ {N : Nat} {t : Nat → AV} {h : List Row} (d : Nat) (T : TypeId) (sz : Nat) (hd : t d = .val (.slice none 0 0)) : h3_ N t h (upd t d (.own h.length 0)) (h ++ [⟨.ty T, sz, []⟩]) := by
 refine nF_ (.ty T) ⟨T, rfl⟩ sz (fun k => ?_) (by simp) (by rw [cL_]; rfl) (fun l r' hl hr => ⟨r', by rwa [List.getElem?_append_left hl] at hr, rfl, rfl, d4_.refl _ _⟩)
 by_cases e : k = d
 ·subst e; right; exact ⟨hd, uU_ _ _ _⟩
 ·left; exact yf_ _ _ _ _ e
theorem ry_ {N : Nat} {t : Nat → AV} {h0 r : List Row} {E : Tag} {s : Nat} {pre post : List AV} (T : TypeId) (sz : Nat) :
 h3_ N t (h0 ++ ⟨E, s, [pre ++ AV.val (.slice none 0 0) :: post]⟩ :: r) t (h0 ++ ⟨E, s, [pre ++ AV.own (h0.length + 1 + r.length) 0 :: post]⟩ :: (r ++ [⟨.ty T, sz, []⟩])) := by
 have hlen : (h0 ++ ⟨E, s, [pre ++ AV.val (.slice none 0 0) :: post]⟩ :: r).length = h0.length + 1 + r.length := by simp; omega
 refine nF_ (.ty T) ⟨T, rfl⟩ sz (fun k => .inl rfl) (by simp; omega) ?_ (fun l r' hl hr => ?_)
 ·rw [hlen, List.getElem?_append_right (by omega)]
  have e : h0.length + 1 + r.length - h0.length = r.length + 1 := by omega
  rw [e, List.getElem?_cons_succ, cL_]; rfl
 ·rw [hlen] at hl ⊢
  by_cases q : l < h0.length
  ·rw [List.getElem?_append_left q] at hr ⊢
   exact ⟨r', hr, rfl, rfl, d4_.refl _ _⟩
  ·rw [List.getElem?_append_right (by omega)] at hr ⊢
   by_cases q0 : l = h0.length
   ·subst q0
    rw [Nat.sub_self, List.getElem?_cons_zero] at hr
    obtain rfl := Option.some.inj hr
    refine ⟨⟨E, s, [pre ++ AV.val (.slice none 0 0) :: post]⟩, by rw [Nat.sub_self, List.getElem?_cons_zero], rfl, rfl, ⟨_, [], rfl, ?_, rfl⟩⟩
    have : ∀ pre : List AV, CvL (h0.length + 1 + r.length) (pre ++ AV.val (.slice none 0 0) :: post) (pre ++ AV.own (h0.length + 1 + r.length) 0 :: post) := by
     intro pre
     induction pre with
     | nil => exact ⟨_, _, rfl, .inr ⟨rfl, rfl⟩, CvL.refl _ _⟩
     | cons a as ih => exact ⟨a, _, rfl, .inl rfl, ih⟩
    exact this pre
   ·obtain ⟨m, hm⟩ : ∃ m, l - h0.length = m + 1 := ⟨l - h0.length - 1, by omega⟩
    rw [hm, List.getElem?_cons_succ, List.getElem?_append_left (by omega)] at hr
    exact ⟨r', by rw [hm, List.getElem?_cons_succ]; exact hr, rfl, rfl, d4_.refl _ _⟩
theorem sh_ {N : Nat} {t : Nat → AV} {h h' : List Row} (h0 r : List Row) (E : Tag) (s : Nat) (pre post : List AV) (T : TypeId) (sz idx : Nat) (e1 : h = h0 ++ ⟨E, s, [pre ++ AV.val (.slice none 0 0) :: post]⟩ :: r) (e2 : h' = h0 ++ ⟨E, s, [pre ++ AV.own idx 0 :: post]⟩ :: (r ++ [⟨.ty T, sz, []⟩])) (e3 : idx = h0.length + 1 + r.length) : h3_ N t h t h' := by
 subst e1 e2 e3; exact ry_ T sz
structure cV_ (l : Nat) (H : List Row) (E : Tag) (sz : Nat) (done ds : List (List AV)) : Prop where
 row : H[l]? = some ⟨E, sz, done⟩
 tree : bI_ (l + 1) H.length H done ds
theorem cV_.lt {l : Nat} {H : List Row} {E : Tag} {sz : Nat} {done ds : List (List AV)} (g : cV_ l H E sz done ds) : l < H.length := (List.getElem?_eq_some_iff.1 g.row).1
theorem cV_.step {l : Nat} {H H1 H2 : List Row} {E : Tag} {sz : Nat} {done ds : List (List AV)} {cs rs : List AV} (g : cV_ l H E sz done ds) (hf : aw_ H.length H1.length H1 cs rs) (h1 : H.length ≤ H1.length) (hk : ∀ x, l < x → x < H.length → H1[x]? = H[x]?)
 (h2 : H1.length ≤ H2.length) (hk2 : ∀ x, l < x → x < H1.length → H2[x]? = H1[x]?) (hr : H2[l]? = some ⟨E, sz, done ++ [cs]⟩) : cV_ l H2 E sz (done ++ [cs]) (ds ++ [rs]) := by
 refine ⟨hr, bI_.snoc (mid := H.length) (g.tree.keep fun x q1 q2 => ?_) ((hf.keep fun x q1 q2 => ?_).widen (Nat.le_refl _) h2) ⟨g.lt, by omega⟩⟩
 ·rw [hk2 x (by omega) (by omega), hk x (by omega) q2]
 ·exact hk2 x (by have := g.lt; omega) q2
theorem cV_.more {l : Nat} {H H' : List Row} {E : Tag} {sz : Nat} {done ds : List (List AV)} (g : cV_ l H E sz done ds) (h1 : H.length ≤ H'.length) (hk : ∀ x, l ≤ x → x < H.length → H'[x]? = H[x]?) : cV_ l H' E sz done ds :=
 ⟨by rw [hk l (Nat.le_refl _) g.lt]; exact g.row, (g.tree.keep fun x q1 q2 => hk x (by omega) q2).widen (Nat.le_refl _) h1⟩
theorem cV_.done {l n : Nat} {H : List Row} {E : Tag} {sz : Nat} {done ds : List (List AV)} (g : cV_ l H E sz done ds) (hn : done.length = n) : aA_ l H.length H (.own l n) (.list 0 sz ds) :=
 aA_.mkown g.tree g.row hn (Nat.le_refl _) (Nat.lt_succ_self _) g.lt
theorem cV_.agg {l n lo : Nat} {H : List Row} {E : Tag} {sz : Nat} {done ds : List (List AV)} (g : cV_ l H E sz done ds) (hn : done.length = n) (hlo : lo ≤ l) (v u : Value) : aA_ lo H.length H (.agg [.val v, .val u, .own l n]) (.agg [.val v, .val u, .list 0 sz ds]) :=
 (aA_.agg (aw_.val _ (aw_.val _ (aw_.cons (g.done hn) (aw_.nil _ _ _) ⟨Nat.le_of_lt g.lt, Nat.le_refl _⟩)))).widen hlo (Nat.le_refl _)
theorem cV_.zero {l : Nat} {H : List Row} {E : Tag} {sz : Nat} (h : H[l]? = some ⟨E, sz, []⟩) : cV_ l H E sz [] [] := ⟨h, .nil _ _ _⟩
theorem aw_.head {lo hi : Nat} {H : List Row} {a r : AV} {as rs : List AV} (h : aw_ lo hi H (a :: as) (r :: rs)) : aA_ lo hi H a r := by
 obtain ⟨n, fs, ⟨d, ds, f, f', e1, rfl, h1, h2⟩, p2, p3⟩ := h
 cases e1
 exact ⟨n, f, h1, (List.nodup_append.1 p2).1, fun l hl => p3 l (List.mem_append_left _ hl)⟩
theorem aw_.rest {lo hi : Nat} {H : List Row} {a r : AV} {as rs : List AV} (h : aw_ lo hi H (a :: as) (r :: rs)) : aw_ lo hi H as rs := by
 obtain ⟨n, fs, ⟨d, ds, f, f', e1, rfl, h1, h2⟩, p2, p3⟩ := h
 cases e1
 exact ⟨n, f', h2, (List.nodup_append.1 p2).2.1, fun l hl => p3 l (List.mem_append_right _ hl)⟩
theorem aa_.ownR {P : Program} {f : FuncId} {as rs : List AV} {H : List Row} {r : AV} (hs : r.solid = true) (hc : ∀ h, aa_ P f rs h r) (ha : ca_ H as rs) : aa_ P f as H r := by
 intro K hk S w vals hm hgl hr
 have hm0 : al_ (S.shut w) [] w := ⟨hm.shut, rfl, by simp [Sit.shut], by simp [Sit.shut]⟩
 refine (hc [] (fun q _ => q = r) rfl (S.shut w) w vals hm0 (hgl.shut hm) (ha.rep hm hr)).mono ?_
 rintro e w' ⟨v', av, S1, h1, rfl, st, hm1, rv, rfl⟩
 have b : Go.RowKit.Below w.heap.size w w' := ⟨st.os, st.tape, st.output, st.size, fun k hk => st.block k hk (by rintro ⟨l, i, q, _⟩; simp [Sit.shut] at q)⟩
 exact ⟨v', _, S, H, rfl, bd_.below b, hm.below b, h0_ hs rv, hk⟩
section
variable {H0 H H' : List Row} {i : Nat} {r : Row}
theorem aM_.refl (H : List Row) : aM_ H H := ⟨Nat.le_refl _, fun _ _ => rfl⟩
theorem aM_.set (m : aM_ H0 H) (h : H0.length ≤ i) : aM_ H0 (H.set i r) := ⟨by rw [List.length_set]; exact m.len, fun l hl => by rw [List.getElem?_set_ne (by omega)]; exact m.kept l hl⟩
theorem aM_.add (m : aM_ H0 H) (l : List Row) : aM_ H0 (H ++ l) := ⟨by rw [List.length_append]; have := m.len; omega, fun x hx => by rw [List.getElem?_append_left (by have := m.len; omega)]; exact m.kept x hx⟩
theorem aM_.app (H l : List Row) : aM_ H (H ++ l) := (aM_.refl H).add l
theorem aM_.tail (m : aM_ H0 H) : ∃ hn, H = H0 ++ hn := by
 refine ⟨H.drop H0.length, ?_⟩
 have e : H.take H0.length = H0 := by
  apply List.ext_getElem?
  intro l
  rw [List.getElem?_take]
  by_cases q : l < H0.length
  ·rw [if_pos q]; exact m.kept l q
  ·rw [if_neg q, List.getElem?_eq_none (by omega)]
 rw [← List.take_append_drop H0.length H, e]
 simp
theorem hB_ (h : H[i]? = some r) (r' : Row) : (H.set i r')[i]? = some r' := by
 rw [List.getElem?_set_self (List.getElem?_eq_some_iff.1 h).1]
end
theorem xo_ {H l : List Row} {i j : Nat} {r : Row} (h : H[j]? = some r) (r' : Row) (hij : i ≠ j) : (H.set i r' ++ l)[j]? = some r := cb_ (by rw [List.getElem?_set_ne hij]; exact h)
theorem w2_ {H l : List Row} {i : Nat} {r : Row} (h : H[i]? = some r) (r' : Row) : (H.set i r' ++ l)[i]? = some r' := cb_ (hB_ h r')
theorem u2_ {H l : List Row} {i j : Nat} {r r' : Row} (h : i < H.length) : (H.set j r ++ l).set i r' = (H.set j r).set i r' ++ l := List.set_append_left _ _ (by simpa using h)
theorem oB_ {P : Program} {N : Nat} {Q : d3_} {k : List Fr} {t : Nat → AV} {h : List Row} {b : LC} (h' : List Row) (hg : ∀ t, h3_ N t h t h') (hb : Ex P N Q b k t h') : Ex P N Q (.ghost b) k t h := lJ_ t h' (hg t) hb
theorem aA_.pair {lo hi : Nat} {H : List Row} {a r : AV} (h : aA_ lo hi H a r) (hl : lo ≤ hi) (v : Value) : aA_ lo hi H (.tup [a, .val v]) (.tup [r, .val v]) :=
 aA_.tup (aw_.cons h (aw_.val v (aw_.nil hi hi H)) ⟨hl, Nat.le_refl _⟩)
structure Res (h h' : List Row) (av r : AV) : Prop where
 more : aM_ h h'
 tree : aA_ h.length h'.length h' av r
theorem bW_ {P : Program} {f : FuncId} {fn : Func} {lf : LF} {args : List AV} {r : AV} {Q : AV → Prop} (hmx : P.follows .mixedOrders = true) (hf : P.funcs[f]? = some fn) (hl : ar_ P fn lf) (hn : args.length = lf.np)
 (hw : ∀ h : List Row, Ex P lf.N (cu_ lf.res fun av h' => Res h h' av r ∧ Q av) lf.body [] (gm_ args) h) : aS_ P f args r Q := by
 intro h K hk
 refine (bD_ hmx hf hl (c7_ hn (hw h))).mono ?_
 rintro a h' ⟨⟨m, h1⟩, h2⟩
 obtain ⟨hn, rfl⟩ := m.tail
 exact hk a hn h1.fresh h2
mutual
def AV.shift (k : Nat) : AV → AV
 | .val v => .val v
 | .list tk sz es => .list tk sz es
 | .iptr cs => .iptr cs
 | .ptr l n i off => .ptr (l + k) n i off
 | .own l n => .own (l + k) n
 | .sub l n lo hi => .sub (l + k) n lo hi
 | .mp l => .mp (l + k)
 | .agg cs => .agg (dF_ k cs)
 | .tup cs => .tup (dF_ k cs)
 | .fn f a b => .fn f (dF_ k a) (dF_ k b)
 | .undef => .undef
def dF_ (k : Nat) : List AV → List AV
 | [] => []
 | c :: cs => c.shift k :: dF_ k cs
end
theorem mE_ (k : Nat) : ∀ cs : List AV, (dF_ k cs).length = cs.length
 | [] => rfl
 | c :: cs => by simp only [dF_, List.length_cons]; rw [mE_ k cs]
def gH_ (k : Nat) (es : List (List AV)) : List (List AV) := es.map (dF_ k)
def eY_ (k : Nat) (r : Row) : Row := ⟨r.E, r.sz, gH_ k r.es⟩
section
variable {S S2 : Sit} {R : List b0_} {k : Nat} (himm : S2.imm = S.imm) (hrows : S2.rows = R ++ S.rows) (hk : R.length = k)
include himm hrows hk
theorem id_ {l : Nat} : S2.rows[l + k]? = S.rows[l]? := by
 rw [hrows, List.getElem?_append_right (by omega)]; congr 1; omega
theorem le_ : S2.still = S.still := by simp [Sit.still, himm]
mutual
theorem Rep.shift : ∀ (a : AV) (x : Value), Rep S a x → Rep S2 (a.shift k) x
 | .val v, x, r => by simpa [Rep, AV.shift] using r
 | .list tk sz es, x, r => by
  simp only [Rep, AV.shift] at r ⊢
  rw [himm, le_ himm hrows hk]; exact r
 | .iptr cs, x, r => by
  simp only [Rep, AV.shift] at r ⊢
  rw [himm, le_ himm hrows hk]; exact r
 | .ptr l n i off, x, r => by
  simp only [Rep, AV.shift] at r ⊢
  rw [id_ himm hrows hk]; exact r
 | .own l n, x, r => by
  simp only [Rep, AV.shift] at r ⊢
  rw [id_ himm hrows hk]; exact r
 | .sub l n lo hi, x, r => by
  simp only [Rep, AV.shift] at r ⊢
  rw [id_ himm hrows hk]; exact r
 | .mp l, x, r => by
  simp only [Rep, AV.shift] at r ⊢
  rw [id_ himm hrows hk]; exact r
 | .agg cs, x, r => by
  simp only [Rep, AV.shift] at r ⊢
  obtain ⟨vs, e, r⟩ := r
  exact ⟨vs, e, ap_.shift cs _ r⟩
 | .tup cs, x, r => by
  simp only [Rep, AV.shift] at r ⊢
  obtain ⟨vs, e, r⟩ := r
  exact ⟨vs, e, ap_.shift cs _ r⟩
 | .fn f a b, x, r => by
  simp only [Rep, AV.shift] at r ⊢
  obtain ⟨vs, us, e, r1, r2⟩ := r
  exact ⟨vs, us, e, ap_.shift a _ r1, ap_.shift b _ r2⟩
 | .undef, x, r => by simp [Rep, AV.shift]
theorem ap_.shift : ∀ (a : List AV) (x : List Value), ap_ S a x → ap_ S2 (dF_ k a) x
 | [], x, r => by simpa [ap_, dF_] using r
 | c :: cs, x, r => by
  simp only [ap_, dF_] at r ⊢
  obtain ⟨v, w, e, r1, r2⟩ := r
  exact ⟨v, w, e, Rep.shift c v r1, ap_.shift cs w r2⟩
end
theorem aG_.shift : ∀ (a : List AV) (x : List Value), aG_ S a x → aG_ S2 (dF_ k a) x
 | [], x, r => by simp [aG_, dF_]
 | c :: cs, x, r => by
  simp only [aG_, dF_] at r ⊢
  obtain ⟨v, w, e, r1, r2⟩ := r
  exact ⟨v, w, e, Rep.shift himm hrows hk c v r1, aG_.shift cs w r2⟩
theorem aB_.shift : ∀ (es : List (List AV)) (x : List Value), aB_ S es x → aB_ S2 (gH_ k es) x
 | [], x, r => by simp [aB_, gH_]
 | c :: cs, x, r => by
  simp only [gH_, List.map_cons, aB_] at r ⊢
  exact ⟨aG_.shift himm hrows hk c _ r.1, by rw [mE_]; exact aB_.shift cs _ r.2⟩
end
section
variable {H h : List Row} {k : Nat} (hk : h.length = k)
include hk
theorem nf_ {l : Nat} : (h ++ H.map (eY_ k))[l + k]? = (H[l]?).map (eY_ k) := by
 rw [List.getElem?_append_right (by omega), List.getElem?_map]; congr 2; omega
theorem aP_.shift {R R' : AV → AV → List Nat → Prop} (hR : ∀ a r f, R a r f → R' (a.shift k) r (f.map (· + k))) : ∀ {as rs : List AV} {fs : List Nat}, aP_ R as rs fs → aP_ R' (dF_ k as) rs (fs.map (· + k))
 | [], rs, fs, ho => by
  obtain ⟨rfl, rfl⟩ := ho
  exact ⟨rfl, rfl⟩
 | a :: as, rs, fs, ho => by
  obtain ⟨d, ds, f, f', rfl, rfl, h1, h2⟩ := ho
  exact ⟨d, ds, _, _, rfl, by rw [List.map_append], hR _ _ _ h1, aP_.shift hR h2⟩
theorem a0_.shift {R R' : AV → AV → List Nat → Prop} (hR : ∀ a r f, R a r f → R' (a.shift k) r (f.map (· + k))) : ∀ {as rs : List (List AV)} {fs : List Nat}, a0_ R as rs fs → a0_ R' (gH_ k as) rs (fs.map (· + k))
 | [], rs, fs, ho => by
  obtain ⟨rfl, rfl⟩ := ho
  exact ⟨rfl, rfl⟩
 | a :: as, rs, fs, ho => by
  obtain ⟨d, ds, f, f', rfl, rfl, h1, h2⟩ := ho
  exact ⟨d, ds, _, _, rfl, by rw [List.map_append], aP_.shift hk hR h1, a0_.shift hR h2⟩
theorem Own.shift : ∀ {n : Nat} {a r : AV} {fs : List Nat}, Own H n a r fs → Own (h ++ H.map (eY_ k)) n (a.shift k) r (fs.map (· + k))
 | 0, a, r, fs, ho => ho.elim
 | n + 1, .val v, r, fs, ho => by
  obtain ⟨rfl, h2⟩ := ho
  exact ⟨rfl, h2⟩
 | n + 1, .own l m, r, fs, ho => by
  obtain ⟨row, es, f, h1, h2, h3, rfl, rfl⟩ := ho
  refine ⟨eY_ k row, es, _, by rw [nf_ hk, h1]; rfl, by simpa [eY_, gH_] using h2, a0_.shift hk (fun a r f ho => Own.shift ho) h3, rfl, by simp⟩
 | n + 1, .sub l m lo hi, r, fs, ho => by
  obtain ⟨row, es, f, h1, h2, h3, rfl, rfl⟩ := ho
  refine ⟨eY_ k row, es, _, by rw [nf_ hk, h1]; rfl, by simpa [eY_, gH_] using h2, a0_.shift hk (fun a r f ho => Own.shift ho) h3, rfl, by simp⟩
 | n + 1, .agg cs, r, fs, ho => by
  obtain ⟨ds, h1, rfl⟩ := ho
  exact ⟨ds, aP_.shift hk (fun a r f ho => Own.shift ho) h1, rfl⟩
 | n + 1, .tup cs, r, fs, ho => by
  obtain ⟨ds, h1, rfl⟩ := ho
  exact ⟨ds, aP_.shift hk (fun a r f ho => Own.shift ho) h1, rfl⟩
 | n + 1, .list _ _ _, r, fs, ho => ho.elim
 | n + 1, .iptr _, r, fs, ho => ho.elim
 | n + 1, .ptr _ _ _ _, r, fs, ho => ho.elim
 | n + 1, .mp _, r, fs, ho => ho.elim
 | n + 1, .fn _ _ _, r, fs, ho => ho.elim
 | n + 1, .undef, r, fs, ho => ho.elim
theorem aA_.shift {lo hi : Nat} {a r : AV} (hf : aA_ lo hi H a r) : aA_ (lo + k) (hi + k) (h ++ H.map (eY_ k)) (a.shift k) r := by
 obtain ⟨n, fs, h1, h2, h3⟩ := hf
 refine ⟨n, _, Own.shift hk h1, List.Pairwise.map _ (fun a b hab q => hab (by omega)) h2, fun l hl => ?_⟩
 obtain ⟨m, hm, rfl⟩ := List.mem_map.1 hl
 have := h3 m hm
 omega
end
theorem gc_ {h : List Row} (a b : List AV) (e : b = a) (hf : a.all AV.flat = true := by rfl) : ∃ n, resolve h n (.tup a) = some (.tup b) := by subst e; exact c1_ h _ hf
section
variable {H l t : List Row} {i j : Nat} {r : Row}
theorem au_ (h : i ≠ j) : (H.set i r)[j]? = H[j]? := List.getElem?_set_ne h
theorem aH_ (h : i < H.length) : (H.set i r)[i]? = some r := by rw [List.getElem?_set_self h]
theorem ay_ (h : i < H.length) : (H ++ l)[i]? = H[i]? := List.getElem?_append_left h
theorem aN_ (h : i = H.length) : (H ++ r :: t)[i]? = some r := by subst h; rw [List.getElem?_append_right (Nat.le_refl _), Nat.sub_self]; rfl
theorem cP_ {s : Row} (h : i = H.length + 1) : (H ++ r :: s :: t)[i]? = some s := by subst h; rw [List.getElem?_append_right (by omega)]; simp
theorem ni_ {s u : Row} (h : i = H.length + 2) : (H ++ r :: s :: u :: t)[i]? = some u := by subst h; rw [List.getElem?_append_right (by omega)]; simp
end
theorem al_.unfull {S : Sit} {h : List Row} {w : World} (m : al_ S h w) {l : Nat} {E : TypeId} {sz : Nat} {es : List (List AV)} (hl : h[l]? = some ⟨.full E, sz, es⟩) : al_ S (h.set l ⟨.ty E, sz, es⟩) w := by
 refine ⟨m.imm, by simp [m.len], fun l' i r q1 q2 => ?_, m.one⟩
 rw [List.getElem?_set] at q2
 by_cases e : l = l'
 ·subst e
  have hlt := (List.getElem?_eq_some_iff.1 hl).1
  simp [hlt] at q2
  subst q2
  obtain ⟨k1, k2, k3, k4⟩ := m.rows l i _ q1 hl
  refine ⟨k1, k2, k3, ?_⟩
  cases hb : i.blk with
  | none => rw [hb] at k4; exact k4
  | some b =>
   rw [hb] at k4
   refine ⟨k4.1, ?_⟩
   have k5 := k4.2
   rw [bj_.full (E := E) rfl] at k5
   rw [bj_.ty (E := E) rfl]
   exact k5.1
 ·simp [e] at q2
  exact m.rows l' i r q1 q2
theorem al_.mkfull {S : Sit} {h : List Row} {w : World} (m : al_ S h w) {l : Nat} {i : b0_} {E : TypeId} {sz : Nat} {es : List (List AV)} (hl : h[l]? = some ⟨.ty E, sz, es⟩) (hi : S.rows[l]? = some i) (hc : i.cap = i.len) : al_ S (h.set l ⟨.full E, sz, es⟩) w := by
 refine ⟨m.imm, by simp [m.len], fun l' i' r q1 q2 => ?_, m.one⟩
 rw [List.getElem?_set] at q2
 by_cases e : l = l'
 ·subst e
  have hlt := (List.getElem?_eq_some_iff.1 hl).1
  simp [hlt] at q2
  subst q2
  rw [hi] at q1
  obtain rfl := Option.some.inj q1
  obtain ⟨k1, k2, k3, k4⟩ := m.rows l i _ hi hl
  refine ⟨k1, k2, k3, ?_⟩
  cases hb : i.blk with
  | none => rw [hb] at k4; exact k4
  | some b =>
   rw [hb] at k4
   refine ⟨k4.1, ?_⟩
   have k5 := k4.2
   rw [bj_.ty (E := E) rfl] at k5
   rw [bj_.full (E := E) rfl]
   exact ⟨k5, hc⟩
 ·simp [e] at q2
  exact m.rows l' i' r q1 q2
theorem rj_ {P : Program} {f : FuncId} {l N sz : Nat} {E : TypeId} {es : List (List AV)} {rest : List AV} {h : List Row} {K : AV → List Row → Prop} (hl : h[l]? = some ⟨.ty E, sz, es⟩) (hN : es.length = N) (hsz : 0 < sz)
 (h1 : callSem P f (.sub l (N + 1) 0 N :: rest) (h.set l ⟨.ty E, sz, es ++ [List.replicate sz .undef]⟩) K)
 (h2 : callSem P f (.sub l N 0 N :: rest) (h.set l ⟨.full E, sz, es⟩) fun av h' => h'[l]? = some ⟨.full E, sz, es⟩ ∧ K av (h'.set l ⟨.ty E, sz, es⟩)) : callSem P f (.sub l N 0 N :: rest) h K := by
 intro S w vals hm hgl hr
 have hr0 := hr
 simp only [ap_] at hr
 obtain ⟨v, r, hv, hr1, hr2⟩ := hr
 simp only [Rep] at hr1
 obtain ⟨_, i, p1, p2, p3⟩ := hr1
 obtain ⟨k1, k2, k3, k4⟩ := hm.rows l i _ p1 hl
 have hil : i.len = N := by rw [k1, hN]
 obtain ⟨_, _, g3⟩ := p3 hil.symm
 by_cases hc : i.len < i.cap
 ·cases hb : i.blk with
  | none => rw [hb] at k4; have := k4.2; omega
  | some b =>
   rw [hb] at k4
   have k5 := k4.2
   rw [bj_.ty (E := E) rfl] at k5
   obtain ⟨c, j2, j3, j4, j5, j6⟩ := k5
   have hlen : ∀ e ∈ es ++ [List.replicate sz AV.undef], e.length = sz := by
    intro e he
    rcases List.mem_append.1 he with q | q
    ·exact k3 e q
    ·simp only [List.mem_singleton] at q; subst q; simp
   have hsz2 : i.sz = sz := k2
   have hg := al_.grow (w' := w) hm (E := E) rfl p1 hl (es' := es ++ [List.replicate sz .undef]) (b := b) (cap := i.cap) (c' := c) hlen (by simp)
    (by
      refine (bB_ hlen).2 fun q e he j cc hj => ?_
      by_cases hq : q < es.length
      ·rw [List.getElem?_append_left hq] at he
       exact (bB_ k3).1 j3 q e he j cc hj
      ·rw [List.getElem?_append_right (by omega)] at he
       have hq0 : q - es.length = 0 := by
        by_cases z : q - es.length = 0
        ·exact z
        ·obtain ⟨k, hk⟩ := Nat.exists_eq_succ_of_ne_zero z
         rw [hk] at he; simp at he
       rw [hq0] at he
       simp only [List.getElem?_cons_zero, Option.some.injEq] at he
       subst he
       have hjl : j < sz := by
        have := (List.getElem?_eq_some_iff.1 hj).1
        simpa using this
       have hcu : cc = .undef := by
        have := List.mem_of_getElem? hj
        exact List.eq_of_mem_replicate this
       subst hcu
       have hqe : q = es.length := by omega
       have hlt : q * sz + j < c.size := by
        rw [j4, hsz2, hqe, hN]
        have : (N + 1) * sz ≤ i.cap * sz := Nat.mul_le_mul_right _ (by omega)
        rw [Nat.add_mul] at this
        omega
       exact ⟨c[q * sz + j], by simp [hlt], by simp [Rep]⟩)
    (by show c.size = i.cap * sz; rw [j4, hsz2]) (by simp; omega) j6 (.inl hb) j2 (fun _ _ _ => rfl) (Nat.le_refl _) rfl rfl rfl
   have hS := hg.2
   refine (h1 _ w vals hg.1 (hgl.up hS.le) ?_).mono ?_
   ·rw [hv]
    simp only [ap_]
    refine ⟨v, r, rfl, ?_, ap_.up hS.le _ _ hr2⟩
    have hll : l < S.rows.length := (List.getElem?_eq_some_iff.1 p1).1
    simp only [Rep]
    refine ⟨?_, ⟨(es ++ [List.replicate sz AV.undef]).length, some b, i.cap, sz⟩, by simp [hll], by simp; omega, fun _ => ⟨Nat.zero_le _, by omega, .inr ?_⟩⟩
    ·rcases g3 with ⟨_, p, q⟩ | ⟨b', off, _, q, _⟩
     ·exact ⟨_, _, _, q⟩
     ·exact ⟨_, _, _, q⟩
    ·rcases g3 with ⟨q, _⟩ | ⟨b', off, hb', q, hoff⟩
     ·rw [hb] at q; cases q
     ·rw [hb] at hb'; cases hb'
      exact ⟨b, off, rfl, q, fun hp => by have := hoff hp; simpa using this⟩
   ·rintro e w' ⟨v', av, S2, h2', e1, st, m2, rv, k⟩
    exact ⟨v', av, S2, h2', e1, hS.trans st, m2, rv, k⟩
 ·have hcap : i.cap = i.len := by
   cases hb : i.blk with
   | none => rw [hb] at k4; rw [k4.2, k1, k4.1]; rfl
   | some b =>
    rw [hb] at k4
    have k5 := k4.2
    rw [bj_.ty (E := E) rfl] at k5
    obtain ⟨c, j2, j3, j4, j5, j6⟩ := k5
    omega
  refine (h2 S w vals (hm.mkfull hl p1 hcap) hgl hr0).mono ?_
  rintro e w' ⟨v', av, S2, h2', e1, st, m2, rv, q1, q2⟩
  exact ⟨v', av, S2, h2'.set l ⟨.ty E, sz, es⟩, e1, st, m2.unfull q1, rv, q2⟩
theorem Rep.own_sub {S : Sit} {l n : Nat} {x : Value} (r : Rep S (.own l n) x) : Rep S (.sub l n 0 n) x := by
 simp only [Rep] at r ⊢
 obtain ⟨r0, i, r1, r2, r3⟩ := r
 refine ⟨r0, i, r1, r2, fun q => ⟨Nat.zero_le _, Nat.le_refl _, ?_⟩⟩
 rcases r3 q with h | ⟨h1, h2⟩
 ·cases hb : i.blk with
  | none => left; exact ⟨rfl, none, by simpa [sliceAt, hb] using h⟩
  | some b =>
   right
   refine ⟨b, 0, rfl, ?_, fun _ => by simp⟩
   rw [h]; simp only [sliceAt, hb]
   rw [q]; rfl
 ·left
  obtain ⟨p, h2⟩ := h2
  exact ⟨h1, p, by simpa using h2⟩
theorem callSem.own_sub {P : Program} {f : FuncId} {l n : Nat} {rest : List AV} {h : List Row} {K : AV → List Row → Prop} (hc : callSem P f (.sub l n 0 n :: rest) h K) : callSem P f (.own l n :: rest) h K := by
 intro S w vals hm hgl hr
 refine hc S w vals hm hgl ?_
 simp only [ap_] at hr ⊢
 obtain ⟨v, r, hv, hr1, hr2⟩ := hr
 exact ⟨v, r, hv, hr1.own_sub, hr2⟩
theorem p0_ {α : Type} : ∀ {a b : List (List α)}, a.Sublist b → a.flatten.Sublist b.flatten := by
 intro a b h
 induction h with
 | slnil => exact List.Sublist.refl _
 | cons x _ ih => rw [List.flatten_cons]; exact ih.trans (List.sublist_append_right _ _)
 | cons_cons x _ ih => rw [List.flatten_cons, List.flatten_cons]; exact List.Sublist.append (List.Sublist.refl _) ih
structure Tr where
 c : List AV
 d : List AV
 f : List Nat
theorem a0_.of_trs {R : AV → AV → List Nat → Prop} : ∀ ts : List Tr, (∀ t ∈ ts, aP_ R t.c t.d t.f) → a0_ R (ts.map Tr.c) (ts.map Tr.d) (ts.map Tr.f).flatten
 | [], _ => ⟨rfl, rfl⟩
 | t :: ts, h => ⟨t.d, ts.map Tr.d, t.f, (ts.map Tr.f).flatten, rfl, by simp, h t (by simp), a0_.of_trs ts fun x hx => h x (by simp [hx])⟩
theorem a0_.trs {R : AV → AV → List Nat → Prop} : ∀ {es ds : List (List AV)} {fs : List Nat}, a0_ R es ds fs → ∃ ts : List Tr, ts.map Tr.c = es ∧ ts.map Tr.d = ds ∧ (ts.map Tr.f).flatten = fs ∧ ∀ t ∈ ts, aP_ R t.c t.d t.f
 | [], ds, fs, h => by
  obtain ⟨rfl, rfl⟩ := h
  exact ⟨[], rfl, rfl, rfl, by simp⟩
 | e :: es, ds, fs, h => by
  obtain ⟨d, ds', f, f', rfl, rfl, h1, h2⟩ := h
  obtain ⟨ts, rfl, rfl, rfl, h3⟩ := a0_.trs h2
  refine ⟨⟨e, d, f⟩ :: ts, rfl, rfl, by simp, fun t ht => ?_⟩
  rcases List.mem_cons.1 ht with q | q
  ·subst q; exact h1
  ·exact h3 t q
theorem Own.cell_of {H : List Row} {k : Nat} {a r : AV} {f : List Nat} (h : Own H k a r f) (hr : r.cell = true) : a.cell = true := by
 cases k with
 | zero => exact h.elim
 | succ k =>
  cases a with
  | val v =>
   obtain ⟨_, q | ⟨rfl, _⟩⟩ := h
   ·subst q; exact hr
   ·rfl
  | agg cs => obtain ⟨ds, _, q⟩ := h; subst q; cases hr
  | tup cs => obtain ⟨ds, _, q⟩ := h; subst q; cases hr
  | undef => exact h.elim
  | _ => rfl
theorem aP_.cells_of {H : List Row} {k : Nat} : ∀ {c d : List AV} {f : List Nat}, aP_ (Own H k) c d f → (∀ r ∈ d, r.cell = true) → c.length = d.length ∧ c.all AV.cell = true
 | [], d, f, h, _ => by
  obtain ⟨rfl, _⟩ := h
  exact ⟨rfl, rfl⟩
 | a :: c, d, f, h, hd => by
  obtain ⟨r, ds, g, g', rfl, rfl, h1, h2⟩ := h
  obtain ⟨q1, q2⟩ := aP_.cells_of h2 fun x hx => hd x (by simp [hx])
  refine ⟨by simp [q1], ?_⟩
  rw [List.all_cons, q2, h1.cell_of (hd r (by simp))]; rfl
theorem jO_ {α : Type} (p : α → Bool) : ∀ (xs : List α) (k : Nat), (bL_ p xs k = -1 ∧ ∀ c ∈ xs, p c = false) ∨ ∃ i, ∃ hi : i < xs.length, bL_ p xs k = ((k + i : Nat) : Int) ∧ p xs[i] = true ∧ ∀ (j : Nat) (hj : j < i), p xs[j] = false
 | [], k => .inl ⟨rfl, fun _ h => by simp at h⟩
 | x :: r, k => by
  by_cases q : p x = true
  ·exact .inr ⟨0, by simp, by simp [bL_, q], by simpa using q, fun j hj => absurd hj (Nat.not_lt_zero j)⟩
  ·have q' : p x = false := by simpa using q
   rcases jO_ p r (k + 1) with ⟨h1, h2⟩ | ⟨i, hi, h1, h2, h3⟩
   ·refine .inl ⟨?_, fun c hc => ?_⟩
    ·unfold bL_; rw [q']; simpa using h1
    ·rcases List.mem_cons.1 hc with e | e
     ·subst e; exact q'
     ·exact h2 c e
   ·refine .inr ⟨i + 1, by simpa using hi, ?_, by simpa using h2, fun j hj => ?_⟩
    ·unfold bL_; rw [q']
     simp only [Bool.false_eq_true, if_false]
     rw [h1]; congr 1; omega
    ·cases j with
     | zero => exact q'
     | succ j => exact h3 j (by omega)
def b7_ (l : Nat) (ts : List Tr) : List Nat := l :: (ts.map Tr.f).flatten
structure bG_ (lo : Nat) (H : List Row) (E sz l m : Nat) (ts : List Tr) : Prop where
 row : H[l]? = some ⟨.ty E, sz, ts.map Tr.c⟩
 le : m ≤ ts.length
 wide : ∀ t ∈ ts, t.c.length = sz ∧ t.c.all AV.cell = true
 tree : ∃ k, ∀ t ∈ ts, aP_ (Own H k) t.c t.d t.f
 one : (b7_ l ts).Nodup
 lows : ∀ x ∈ b7_ l ts, lo ≤ x ∧ x < H.length
def Sl (a : AV) (l m : Nat) (ts : List Tr) : Prop := a = .sub l ts.length 0 m ∨ (a = .own l ts.length ∧ m = ts.length)
section
variable {lo E sz l m : Nat} {H H' : List Row} {ts : List Tr} {a : AV}
theorem bG_.lt (s : bG_ lo H E sz l m ts) : l < H.length := (List.getElem?_eq_some_iff.1 s.row).1
theorem bG_.fresh (s : bG_ lo H E sz l m ts) : aA_ lo H.length H (.sub l ts.length 0 m) (.list 0 sz ((ts.take m).map Tr.d)) := by
 obtain ⟨k, hk⟩ := s.tree
 exact ⟨k + 1, b7_ l ts, ⟨⟨.ty E, sz, ts.map Tr.c⟩, ts.map Tr.d, (ts.map Tr.f).flatten, s.row, by simp, a0_.of_trs ts hk, by simp [List.map_take], rfl⟩, s.one, s.lows⟩
theorem bG_.freshOwn (s : bG_ lo H E sz l m ts) : aA_ lo H.length H (.own l ts.length) (.list 0 sz (ts.map Tr.d)) := by
 obtain ⟨k, hk⟩ := s.tree
 exact ⟨k + 1, b7_ l ts, ⟨⟨.ty E, sz, ts.map Tr.c⟩, ts.map Tr.d, (ts.map Tr.f).flatten, s.row, by simp, a0_.of_trs ts hk, rfl, rfl⟩, s.one, s.lows⟩
theorem bG_.freshS (s : bG_ lo H E sz l m ts) (h : Sl a l m ts) : aA_ lo H.length H a (.list 0 sz ((ts.take m).map Tr.d)) := by
 rcases h with rfl | ⟨rfl, rfl⟩
 ·exact s.fresh
 ·rw [List.take_length]; exact s.freshOwn
theorem Sl.cell (h : Sl a l m ts) : a.cell = true := by
 rcases h with rfl | ⟨rfl, _⟩ <;> rfl
theorem bG_.keep (s : bG_ lo H E sz l m ts) (hk : ∀ x ∈ b7_ l ts, H'[x]? = H[x]?) (hl : H.length ≤ H'.length) : bG_ lo H' E sz l m ts := by
 obtain ⟨k, ht⟩ := s.tree
 refine ⟨by rw [hk l (by simp [b7_])]; exact s.row, s.le, s.wide, ⟨k, fun t q => ?_⟩, s.one, fun x hx => ?_⟩
 ·refine aP_.mono (fun a r g hg ho => ho.keep fun x hx => hk x ?_) (ht t q)
  exact List.mem_cons_of_mem _ (List.mem_flatten.2 ⟨t.f, List.mem_map.2 ⟨t, q, rfl⟩, hg x hx⟩)
 ·have := s.lows x hx; omega
theorem bG_.more (s : bG_ lo H E sz l m ts) (h : aM_ H H') : bG_ lo H' E sz l m ts := s.keep (fun x hx => h.kept x (s.lows x hx).2) h.len
theorem jH_ {t : Tr} {x : Nat} (ht : t ∈ ts) (hx : x ∈ t.f) : x ∈ b7_ l ts := List.mem_cons_of_mem _ (List.mem_flatten.2 ⟨t.f, List.mem_map.2 ⟨t, ht, rfl⟩, hx⟩)
theorem bG_.apart (s : bG_ lo H E sz l m ts) {t : Tr} (ht : t ∈ ts) : l ∉ t.f := by
 intro h
 have := (List.nodup_cons.1 s.one).1
 exact this (List.mem_flatten.2 ⟨t.f, List.mem_map.2 ⟨t, ht, rfl⟩, h⟩)
theorem bG_.arg (s : bG_ lo H E sz l m ts) {t : Tr} (ht : t ∈ ts) (hk : ∀ x ∈ t.f, H'[x]? = H[x]?) : cT_ H' (.agg t.c) (.agg t.d) := by
 obtain ⟨k, h⟩ := s.tree
 exact .inr ⟨k + 1, t.f, t.d, aP_.mono (fun a r g hg ho => ho.keep fun x hx => hk x (hg x hx)) (h t ht), rfl⟩
theorem bG_.renew (s : bG_ lo H E sz l m ts) {l' m' : Nat} {ts' new old : List Tr} (hrow : H'[l']? = some ⟨.ty E, sz, ts'.map Tr.c⟩) (hle : m' ≤ ts'.length) (hp : ts'.Perm (new ++ old)) (ho : old.Sublist ts)
 (hw : ∀ t ∈ new, t.c.length = sz ∧ t.c.all AV.cell = true) (hn : ∃ k, ∀ t ∈ new, aP_ (Own H' k) t.c t.d t.f) (hnd : (new.map Tr.f).flatten.Nodup) (hnf : ∀ x ∈ (new.map Tr.f).flatten, x ∉ b7_ l ts ∧ x ≠ l' ∧ lo ≤ x ∧ x < H'.length)
 (hk : ∀ x ∈ (ts.map Tr.f).flatten, H'[x]? = H[x]?) (hl : l' = l ∨ H.length ≤ l') (hlen : H.length ≤ H'.length) : bG_ lo H' E sz l' m' ts' := by
 obtain ⟨k, ht⟩ := s.tree
 obtain ⟨k2, hn⟩ := hn
 have hmem : ∀ t ∈ ts', t ∈ new ∨ t ∈ ts := fun t q => by
  rcases List.mem_append.1 (hp.mem_iff.1 q) with q | q
  ·exact .inl q
  ·exact .inr (ho.subset q)
 have hfl : (ts'.map Tr.f).flatten.Perm ((new.map Tr.f).flatten ++ (old.map Tr.f).flatten) := by
  have := (hp.map Tr.f).flatten
  rwa [List.map_append, List.flatten_append] at this
 have hsub : (old.map Tr.f).flatten.Sublist (ts.map Tr.f).flatten := p0_ (ho.map Tr.f)
 have hone := List.nodup_cons.1 s.one
 have hl0 : lo ≤ l' ∧ l' < H'.length := by
  have h2 := (List.getElem?_eq_some_iff.1 hrow).1
  have h3 := s.lows l (by simp [b7_])
  rcases hl with e | e
  ·subst e; omega
  ·omega
 have hlout : l' ∉ (ts.map Tr.f).flatten := by
  intro q
  rcases hl with e | e
  ·subst e; exact hone.1 q
  ·have := (s.lows l' (List.mem_cons_of_mem _ q)).2; omega
 refine ⟨hrow, hle, fun t q => ?_, ⟨k + k2, fun t q => ?_⟩, ?_, fun x hx => ?_⟩
 ·rcases hmem t q with q | q
  ·exact hw t q
  ·exact s.wide t q
 ·rcases hmem t q with q | q
  ·exact aP_.up (by omega) (hn t q)
  ·refine aP_.up (n := k) (by omega) (aP_.mono (fun a r g hg ho => ho.keep fun x hx => hk x ?_) (ht t q))
   exact List.mem_flatten.2 ⟨t.f, List.mem_map.2 ⟨t, q, rfl⟩, hg x hx⟩
 ·refine List.nodup_cons.2 ⟨fun q => ?_, hfl.nodup_iff.2 (List.nodup_append.2 ⟨hnd, hone.2.sublist hsub, ?_⟩)⟩
  ·rcases List.mem_append.1 (hfl.mem_iff.1 q) with q | q
   ·exact (hnf l' q).2.1 rfl
   ·exact hlout (hsub.subset q)
  ·intro x hx y hy e
   subst e
   exact (hnf x hx).1 (List.mem_cons_of_mem _ (hsub.subset hy))
 ·rcases List.mem_cons.1 hx with e | q
  ·subst e; exact hl0
  ·rcases List.mem_append.1 (hfl.mem_iff.1 q) with q | q
   ·have := hnf x q; omega
   ·have := s.lows x (List.mem_cons_of_mem _ (hsub.subset q)); omega
theorem bG_.put (s : bG_ lo H E sz l m ts) {k : Nat} {t' : Tr} (hk : k < ts.length) (hf : t'.f = ts[k].f) (hw : t'.c.length = sz ∧ t'.c.all AV.cell = true) (ht : ∀ n, aP_ (Own H n) ts[k].c ts[k].d ts[k].f → aP_ (Own H n) t'.c t'.d t'.f) : bG_ lo (H.set l ⟨.ty E, sz, (ts.set k t').map Tr.c⟩) E sz l m (ts.set k t') := by
 obtain ⟨q, h⟩ := s.tree
 have hmap : (ts.set k t').map Tr.f = ts.map Tr.f := by
  rw [List.map_set, hf]
  apply List.ext_getElem?
  intro i
  rw [List.getElem?_set]
  split
  ·rename_i e
   subst e
   rw [if_pos (by simpa using hk), List.getElem?_map, List.getElem?_eq_getElem hk]; rfl
  ·rfl
 have hkeep : ∀ t ∈ ts, ∀ x ∈ t.f, (H.set l ⟨.ty E, sz, (ts.set k t').map Tr.c⟩)[x]? = H[x]? := fun t ht x hx => List.getElem?_set_ne (fun e : l = x => s.apart ht (by rw [e]; exact hx))
 refine ⟨by rw [List.getElem?_set_self s.lt], by rw [List.length_set]; exact s.le, fun t ht' => ?_, ⟨q, fun t ht' => ?_⟩, ?_, fun x hx => ?_⟩
 ·rcases List.mem_or_eq_of_mem_set ht' with e | e
  ·exact s.wide t e
  ·subst e; exact hw
 ·rcases List.mem_or_eq_of_mem_set ht' with e | e
  ·exact aP_.mono (fun a r g hg ho => ho.keep fun x hx => hkeep t e x (hg x hx)) (h t e)
  ·subst e
   have := ht q (h _ (List.getElem_mem hk))
   exact aP_.mono (fun a r g hg ho => ho.keep fun x hx => hkeep _ (List.getElem_mem hk) x (by rw [← hf]; exact hg x hx)) this
 ·unfold b7_; rw [hmap]; exact s.one
 ·unfold b7_ at hx; rw [hmap] at hx
  rw [List.length_set]; exact s.lows x hx
end
structure bp_ (H : List Row) (a r : AV) : Prop where
 out : ∀ (S : Sit) (w : World) (x : Value), al_ S H w → Rep S a x → Rep (S.shut w) r x
def aX_ (H : List Row) : List AV → List AV → Prop
 | [], rs => rs = []
 | a :: as, rs => ∃ r rs', rs = r :: rs' ∧ bp_ H a r ∧ aX_ H as rs'
theorem aX_.nil {H : List Row} : aX_ H [] [] := rfl
theorem aX_.cons {H : List Row} {a r : AV} {as rs : List AV} (h1 : bp_ H a r) (h2 : aX_ H as rs) : aX_ H (a :: as) (r :: rs) := ⟨_, _, rfl, h1, h2⟩
theorem cT_.any {H : List Row} {a r : AV} (h : cT_ H a r) : bp_ H a r := ⟨fun S w x m hr => by
 rcases h with ⟨rfl, hp⟩ | ⟨n, fs, h1⟩
 ·exact Rep.up (hv_ m) _ _ (iH_ hp hr)
 ·exact Own.rep m n a x r fs hr h1⟩
theorem bp_.same {H : List Row} {a : AV} (hp : a.plain = true) : bp_ H a a := (cT_.same hp).any
theorem bp_.res {H : List Row} {a r : AV} {n : Nat} (h : resolve H n a = some r) : bp_ H a r := ⟨fun S w x m hr => iJ_ m n a x r hr h⟩
theorem bp_.box {H : List Row} {l : Nat} {E : Tag} {sz : Nat} {c r : AV} (hl : H[l]? = some ⟨E, sz, [[c]]⟩) (hc : bp_ H c r) : bp_ H (.ptr l 1 0 0) (.iptr [r]) := ⟨fun S w x m hr => by
 simp only [Rep] at hr
 obtain ⟨_, i, q1, q2, q3⟩ := hr
 obtain ⟨k1, k2, k3, k4⟩ := m.rows l i _ q1 hl
 obtain ⟨b, hb, hx⟩ := q3 (by rw [k1]; rfl)
 rw [hb] at k4
 obtain ⟨_, cs, _, j2, j3, j4, j5, j6⟩ := k4.2.cells (.inl (by simp))
 simp only [aB_, aG_] at j3
 obtain ⟨⟨v, q, e, r1, _⟩, _⟩ := j3
 have hown : S.ownsB b = true := dP_.2 ⟨l, i, q1, hb⟩
 have hlen : cs.size = q.length + 1 := by
  have := congrArg List.length e
  simpa using this
 simp only [Rep]
 refine ⟨b, 0, cs, by simpa using hx, by simp [Sit.shut, hown, j2], by simp [hlen], ?_⟩
 rw [List.drop_zero, e]
 simp only [aG_]
 exact ⟨v, q, rfl, hc.out S w v m r1, trivial⟩⟩
theorem aX_.rep {S : Sit} {H : List Row} {w : World} (m : al_ S H w) : ∀ {as rs : List AV} {xs : List Value}, aX_ H as rs → ap_ S as xs → ap_ (S.shut w) rs xs
 | [], rs, xs, h, r => by subst h; simpa [ap_] using r
 | a :: as, rs, xs, h, r => by
  obtain ⟨d, ds, e, h1, h2⟩ := h
  subst e
  simp only [ap_] at r ⊢
  obtain ⟨v, q, e, r1, r2⟩ := r
  exact ⟨v, q, e, h1.out S w v m r1, aX_.rep m h2 r2⟩
theorem aa_.anyR {P : Program} {f : FuncId} {as rs : List AV} {H : List Row} {r : AV} (hs : r.solid = true) (hc : ∀ h, aa_ P f rs h r) (ha : aX_ H as rs) : aa_ P f as H r := by
 intro K hk S w vals hm hgl hr
 have hm0 : al_ (S.shut w) [] w := ⟨hm.shut, rfl, by simp [Sit.shut], by simp [Sit.shut]⟩
 refine (hc [] (fun q _ => q = r) rfl (S.shut w) w vals hm0 (hgl.shut hm) (ha.rep hm hr)).mono ?_
 rintro e w' ⟨v', av, S1, h1, rfl, st, hm1, rv, rfl⟩
 have b : Go.RowKit.Below w.heap.size w w' := ⟨st.os, st.tape, st.output, st.size, fun k hk => st.block k hk (by rintro ⟨l, i, q, _⟩; simp [Sit.shut] at q)⟩
 exact ⟨v', _, S, H, rfl, bd_.below b, hm.below b, h0_ hs rv, hk⟩
theorem es_ {P : Program} {f : FuncId} {as rs : List AV} {H : List Row} {r : AV} {Q : AV → Prop} (hc : aS_ P f rs r Q) (ha : aX_ H as rs) {K : AV → List Row → Prop} (hk : ∀ av H', aM_ H H' → FB H.length H'.length H' av r → Q av → K av H') : callSem P f as H K :=
 lW_ hc (fun S w xs m hr => ha.rep m hr) (fun av hn hf hq => hk av _ (aM_.app _ _) ⟨hf.b, Nat.le_refl _⟩ hq)
theorem FB.three {lo hi : Nat} {H : List Row} {a r : AV} {v u v2 u2 : Value} (h : FB lo hi H (.tup [a, .val v, .val v2]) (.tup [r, .val u, .val u2])) : FB lo hi H a r ∧ (.val v = AV.val u) ∧ (.val v2 = AV.val u2) := by
 have h4 := h.le
 obtain ⟨n, fs, h1, h2, h3⟩ := h.tree.untup
 obtain ⟨d, ds, f, f', e1, rfl, q1, q2⟩ := h1
 simp only [List.cons.injEq] at e1
 obtain ⟨rfl, rfl⟩ := e1
 obtain ⟨d, ds, f2, f3, e1, rfl, q3, q4⟩ := q2
 simp only [List.cons.injEq] at e1
 obtain ⟨rfl, rfl⟩ := e1
 obtain ⟨d, ds, f4, f5, e1, rfl, q5, q6⟩ := q4
 simp only [List.cons.injEq] at e1
 obtain ⟨rfl, rfl⟩ := e1
 obtain ⟨_, rfl⟩ := q6
 obtain ⟨rfl, e⟩ := q3.of_val
 obtain ⟨rfl, e2⟩ := q5.of_val
 refine ⟨⟨⟨n, f, q1, (List.nodup_append.1 h2).1, fun l hl => h3 l (List.mem_append_left _ hl)⟩, h4⟩, e, e2⟩
structure TB (E0 E sz L lo : Nat) (H : List Row) (l m : Nat) (ts : List Tr) : Prop where
 box : ∃ a, H[L]? = some ⟨.ty E0, 1, [[a]]⟩ ∧ Sl a l m ts
 lt : L < lo
 at' : bG_ lo H E sz l m ts
theorem TB.tree {E0 E sz L lo l m : Nat} {H : List Row} {ts : List Tr} (b : TB E0 E sz L lo H l m ts) : ∃ a, H[L]? = some ⟨.ty E0, 1, [[a]]⟩ ∧ Sl a l m ts ∧ aA_ lo H.length H a (.list 0 sz ((ts.take m).map Tr.d)) := by
 obtain ⟨a, h1, h2⟩ := b.box
 exact ⟨a, h1, h2, b.at'.freshS h2⟩
theorem TB.keep {E0 E sz L lo l m : Nat} {H H' : List Row} {ts : List Tr} (b : TB E0 E sz L lo H l m ts) (hb : H'[L]? = H[L]?) (hk : ∀ x ∈ b7_ l ts, H'[x]? = H[x]?) (hl : H.length ≤ H'.length) : TB E0 E sz L lo H' l m ts := by
 obtain ⟨a, h1, h2⟩ := b.box
 exact ⟨⟨a, hb.trans h1, h2⟩, b.lt, b.at'.keep hk hl⟩
theorem TB.more {E0 E sz L lo l m : Nat} {H H' : List Row} {ts : List Tr} (b : TB E0 E sz L lo H l m ts) (h : aM_ H H') : TB E0 E sz L lo H' l m ts := by
 obtain ⟨a, h1, h2⟩ := b.box
 exact b.keep (h.kept L (List.getElem?_eq_some_iff.1 h1).1) (fun x hx => h.kept x (b.at'.lows x hx).2) h.len
end Go.AW
