/-
 A small program logic over abstract values, proved sound over the model: what a function's code gives for data, without worlds and cells. Nothing of any one program. No conditions.
-/
import Derived.Test.YthahmhkbcdpkjabGreatDoorAwB
import Derived.Lib.LaidTab
import Derived.Below
import Derived.Sort.Grow
set_option linter.unusedVariables false
set_option linter.unusedSimpArgs false
set_option linter.unusedSectionVars false
namespace Go.AW
open List
open Go.RowKit
open Go.RowKit (Below)
open Go.Sort (Holds putRow grow mapBlock onCells putCells)
section
variable {P : Program} {N : Nat} {Q : dB_} {k : List Fr} {t : Nat → AV} {h : List Row}
structure ExC (P : Program) (N : Nat) (Q : dB_) (v : AV) (a b : LC) (k : List Fr) (t : Nat → AV) (h : List Row) : Prop where
 out : match v with | .val (.bool q) => (q = true → Ex P N Q a k t h) ∧ (q = false → Ex P N Q b k t h) | _ => False
theorem se_ (c : Operand) (a b : LC) : Ex P N Q (.cond c a b) k t h = ExC P N Q (ak_ t c) a b k t h := by
 rw [aC_]
 exact propext ⟨fun q => ⟨q⟩, fun q => q.out⟩
theorem j0_ (a b : LC) : ExC P N Q (.val (.bool true)) a b k t h = Ex P N Q a k t h :=
 propext ⟨fun q => q.out.1 rfl, fun q => ⟨⟨fun _ => q, fun e => (by cases e)⟩⟩⟩
theorem iO_ (a b : LC) : ExC P N Q (.val (.bool false)) a b k t h = Ex P N Q b k t h :=
 propext ⟨fun q => q.out.2 rfl, fun q => ⟨⟨fun e => (by cases e), fun _ => q⟩⟩⟩
theorem ap_ {q : Bool} {a b : LC} (h1 : q = true → Ex P N Q a k t h) (h2 : q = false → Ex P N Q b k t h) : ExC P N Q (.val (.bool q)) a b k t h := ⟨⟨h1, h2⟩⟩
theorem an_ {q : Bool} {a b : LC} (h1 : q = true → Ex P N Q b k t h) (h2 : q = false → Ex P N Q a k t h) : ExC P N Q (.val (.bool (!q))) a b k t h :=
 ⟨⟨fun e => h2 (by simpa using e), fun e => h1 (by simpa using e)⟩⟩
theorem aM_ {q : Bool} {d : Option Nat} {op : LOp} {l : List LI} (h1 : q = true → ExG P N Q (some true) d op l k t h) (h2 : q = false → ExG P N Q (some false) d op l k t h) : ExG P N Q (some q) d op l k t h := by
 cases q
 ·exact h2 rfl
 ·exact h1 rfl
theorem aH_ {q : Bool} {d : Option Nat} {op : LOp} {l : List LI} (h1 : q = true → ExG P N Q (some false) d op l k t h) (h2 : q = false → ExG P N Q (some true) d op l k t h) : ExG P N Q (some (!q)) d op l k t h := by
 cases q
 ·exact h2 rfl
 ·exact h1 rfl
theorem cf_ {q : Bool} {d : Option Nat} {op : LOp} {l : List LI} (h1 : q = true → ExH P N Q (some true) d op l k t h) (h2 : q = false → ExH P N Q (some false) d op l k t h) : ExH P N Q (some q) d op l k t h := by
 cases q
 ·exact h2 rfl
 ·exact h1 rfl
theorem bV_ {q : Bool} {d : Option Nat} {op : LOp} {l : List LI} (h1 : q = true → ExH P N Q (some false) d op l k t h) (h2 : q = false → ExH P N Q (some true) d op l k t h) : ExH P N Q (some (!q)) d op l k t h := by
 cases q
 ·exact h2 rfl
 ·exact h1 rfl
theorem bs_ {q : Bool} {d : Option Nat} {op : LOp} {l : List LI} (e : q = true) (h1 : q = true → ExG P N Q (some true) d op l k t h) : ExG P N Q (some q) d op l k t h := by subst e; exact h1 rfl
theorem bt_ {q : Bool} {d : Option Nat} {op : LOp} {l : List LI} (e : q = false) (h1 : q = false → ExG P N Q (some false) d op l k t h) : ExG P N Q (some q) d op l k t h := by subst e; exact h1 rfl
theorem bf_ {q : Bool} {d : Option Nat} {op : LOp} {l : List LI} (e : q = true) (h1 : q = true → ExG P N Q (some false) d op l k t h) : ExG P N Q (some (!q)) d op l k t h := by subst e; exact h1 rfl
theorem bh_ {q : Bool} {d : Option Nat} {op : LOp} {l : List LI} (e : q = false) (h1 : q = false → ExG P N Q (some true) d op l k t h) : ExG P N Q (some (!q)) d op l k t h := by subst e; exact h1 rfl
theorem er_ {q : Bool} {d : Option Nat} {op : LOp} {l : List LI} (e : q = true) (h1 : q = true → ExH P N Q (some true) d op l k t h) : ExH P N Q (some q) d op l k t h := by subst e; exact h1 rfl
theorem ex_ {q : Bool} {d : Option Nat} {op : LOp} {l : List LI} (e : q = false) (h1 : q = false → ExH P N Q (some false) d op l k t h) : ExH P N Q (some q) d op l k t h := by subst e; exact h1 rfl
theorem dG_ {q : Bool} {d : Option Nat} {op : LOp} {l : List LI} (e : q = true) (h1 : q = true → ExH P N Q (some false) d op l k t h) : ExH P N Q (some (!q)) d op l k t h := by subst e; exact h1 rfl
theorem du_ {q : Bool} {d : Option Nat} {op : LOp} {l : List LI} (e : q = false) (h1 : q = false → ExH P N Q (some true) d op l k t h) : ExH P N Q (some (!q)) d op l k t h := by subst e; exact h1 rfl
theorem aP_ {q : Bool} {a b : LC} (e : q = true) (h1 : q = true → Ex P N Q a k t h) : ExC P N Q (.val (.bool (q))) a b k t h := by subst e; exact (j0_ a b).symm ▸ h1 rfl
theorem aO_ {q : Bool} {a b : LC} (e : q = false) (h1 : q = false → Ex P N Q b k t h) : ExC P N Q (.val (.bool (q))) a b k t h := by subst e; exact (iO_ a b).symm ▸ h1 rfl
theorem aF_ {q : Bool} {a b : LC} (e : q = true) (h1 : q = true → Ex P N Q b k t h) : ExC P N Q (.val (.bool (!q))) a b k t h := by subst e; exact (iO_ a b).symm ▸ h1 rfl
theorem aE_ {q : Bool} {a b : LC} (e : q = false) (h1 : q = false → Ex P N Q a k t h) : ExC P N Q (.val (.bool (!q))) a b k t h := by subst e; exact (j0_ a b).symm ▸ h1 rfl
end
def dj_ (s : ByteArray) : List Int := s.data.toList.map fun b => (b.toNat : Int)
theorem cz_ (s : ByteArray) : (dj_ s).length = s.size := by
 unfold dj_; rw [length_map, Array.length_toList]; rfl
theorem tO_ {s : ByteArray} {i : Nat} (h : i < s.size) : s[i]? = some s[i] := getElem?_pos s i h
theorem uN_ {s : ByteArray} {i : Nat} (h : i < s.size) : ((s[i]).toNat : Int) = (dj_ s)[i]'(by rw [cz_]; exact h) := by
 simp only [dj_, getElem_map, Array.getElem_toList]; rfl
def cl_ {α : Type} (p : α → Bool) : List α → Nat → Int
 | [], _ => -1
 | x :: xs, k => if p x then (k : Int) else cl_ p xs (k + 1)
theorem gW_ {α : Type} (p : α → Bool) (xs : List α) (k : Nat) (h : k < xs.length) : cl_ p (xs.drop k) k = if p xs[k] then (k : Int) else cl_ p (xs.drop (k + 1)) (k + 1) := by
 rw [drop_eq_getElem_cons h]; rfl
theorem dX_ {α : Type} (p : α → Bool) (xs : List α) (k : Nat) (h : xs.length ≤ k) : cl_ p (xs.drop k) k = -1 := by
 rw [drop_eq_nil_of_le h]; rfl
theorem iP_ {α : Type} (p : α → Bool) : ∀ (xs : List α) (k : Nat), decide (0 ≤ cl_ p xs k) = xs.any p
 | [], k => rfl
 | x :: xs, k => by
  simp only [cl_, any_cons]
  by_cases e : p x = true
  ·simp [e]
  ·simp only [e, Bool.false_eq_true, if_false, Bool.false_or]; exact iP_ p xs (k + 1)
theorem hx_ {α : Type} (p : α → Bool) (xs : List α) : decide (0 ≤ cl_ p xs 0) = xs.any p := iP_ p xs 0
theorem rR_ {α : Type} (p : α → Bool) (xs : List α) (k : Nat) (h : k < xs.length) : (xs.drop k).all p = (p xs[k] && (xs.drop (k + 1)).all p) := by
 rw [drop_eq_getElem_cons h]; rfl
theorem oJ_ {α : Type} (p : α → Bool) (xs : List α) (k : Nat) (h : xs.length ≤ k) : (xs.drop k).all p = true := by
 rw [drop_eq_nil_of_le h]; rfl
theorem x7_ (k : Nat) : ((k : Int) = 0) = (k = 0) := by simp
theorem v4_ (k : Nat) : ((0 : Int) < (k : Int)) = (0 < k) := by simp
theorem pG_ (k : Nat) : ((k : Int) - 1).toNat = k - 1 := by omega
theorem be_ {h l : List Row} {i : Nat} {r : Row} (e : h[i]? = some r) : (h ++ l)[i]? = some r := by
 have := (List.getElem?_eq_some_iff.1 e).1
 rw [getElem?_append_left this, e]
theorem nN_ {k : Nat} (h : 0 < k) : (0 ≤ (k : Int) - 1) = True := by
 apply eq_true; omega
attribute [go_sem] se_ j0_ iO_ Go.undef bI_ g8_ Nat.zero_le tO_ uN_ x7_ v4_ pG_ az_ nN_
structure ExP (P : Program) (N : Nat) (Q : dB_) (pre todo : List LI) (chain : List (LI × List LI)) (k : List Fr) (t : Nat → AV) (h : List Row) : Prop where
 out : gd_ h todo t fun T => holds T h pre ∧ f7_ P chain T h (exK P N Q k .normal)
structure pS_ (P : Program) (N : Nat) (Q : dB_) (chain : List (LI × List LI)) (k : List Fr) (t : Nat → AV) (h : List Row) : Prop where
 out : f7_ P chain t h (exK P N Q k .normal)
structure AfC (P : Program) (N : Nat) (Q : dB_) (d : Option Nat) (loose : List LI) (chain : List (LI × List LI)) (k : List Fr) (t : Nat → AV) (v : AV) (h : List Row) : Prop where
 out : holds (put t d v) h loose ∧ f7_ P chain (put t d v) h (exK P N Q k .normal)
structure Hol (T : Nat → AV) (h : List Row) (l : List LI) : Prop where
 out : holds T h l
def lm_ (t : Nat → AV) (h : List Row) (K : AV → Prop) (op : LOp) : Prop := match ai_ t h op with | some v => K v | none => False
structure AfP (P : Program) (N : Nat) (Q : dB_) (pre : List LI) (d : Option Nat) (todo : List LI) (chain : List (LI × List LI)) (k : List Fr) (t : Nat → AV) (h : List Row) (v : AV) : Prop where
 out : gd_ h todo (put t d v) fun T => holds T h pre ∧ f7_ P chain T h (exK P N Q k .normal)
section
variable {P : Program} {N : Nat} {Q : dB_} {k : List Fr} {t : Nat → AV} {h : List Row}
theorem tN_ (pre : List LI) (chain : List (LI × List LI)) : Ex P N Q (.gops pre chain) k t h = ExP P N Q pre pre chain k t h := propext ⟨fun q => ⟨q.out⟩, fun q => ⟨q.out⟩⟩
theorem tf_ (pre : List LI) (chain : List (LI × List LI)) : ExP P N Q pre [] chain k t h = (Hol t h pre ∧ pS_ P N Q chain k t h) :=
 propext ⟨fun q => ⟨⟨q.out.1⟩, ⟨q.out.2⟩⟩, fun q => ⟨⟨q.1.out, q.2.out⟩⟩⟩
theorem rc_ (pre : List LI) (d : Option Nat) (op : LOp) (r : List LI) (chain : List (LI × List LI)) : ExP P N Q pre (⟨d, none, op⟩ :: r) chain k t h = lm_ t h (AfP P N Q pre d r chain k t h) op := by
 unfold lm_
 cases hv : ai_ t h op with
 | none =>
  refine propext ⟨fun q => ?_, fun q => q.elim⟩
  have := q.out
  unfold gd_ at this
  simp only [hv] at this
 | some v =>
  refine propext ⟨fun q => ⟨?_⟩, fun q => ⟨?_⟩⟩
  ·have := q.out
   unfold gd_ at this
   simp only [hv] at this
   exact this
  ·unfold gd_
   simp only [hv]
   exact q.out
theorem u1_ (pre : List LI) (d : Option Nat) (r : List LI) (chain : List (LI × List LI)) (v : AV) : AfP P N Q pre d r chain k t h v = ExP P N Q pre r chain k (put t d v) h := propext ⟨fun q => ⟨q.out⟩, fun q => ⟨q.out⟩⟩
theorem tq_ : Hol t h [] = True := propext ⟨fun _ => trivial, fun _ => ⟨trivial⟩⟩
theorem qY_ (d : Nat) (op : LOp) (r : List LI) : Hol t h (⟨some d, none, op⟩ :: r) = (lm_ t h (fun v => v = t d) op ∧ Hol t h r) := by
 refine propext ⟨fun q => ?_, fun q => ⟨?_⟩⟩
 ·have := q.out
  unfold holds at this
  refine ⟨?_, ⟨this.2⟩⟩
  unfold lm_
  rw [this.1]
 ·unfold holds
  refine ⟨?_, q.2.out⟩
  have := q.1
  unfold lm_ at this
  simp only
  split at this
  ·rename_i v hv; rw [hv, this]
  ·exact this.elim
theorem q2_ : pS_ P N Q [] k t h = ExK P N Q k .normal t h := propext ⟨fun q => ⟨q.out⟩, fun q => ⟨q.out⟩⟩
theorem tj_ (d : Option Nat) (loose : List LI) (chain : List (LI × List LI)) : AfC P N Q d loose chain k t = fun v h => holds (put t d v) h loose ∧ f7_ P chain (put t d v) h (exK P N Q k .normal) :=
 funext fun _ => funext fun _ => propext ⟨fun q => q.out, fun q => ⟨q⟩⟩
theorem p9_ (d : Option Nat) (op : LOp) (loose : List LI) (r : List (LI × List LI)) : pS_ P N Q ((⟨d, none, op⟩, loose) :: r) k t h = aZ_ P t h (AfC P N Q d loose r k t) op := by
 rw [tj_]; exact propext ⟨fun q => q.out, fun q => ⟨q⟩⟩
theorem vr_ (d : Option Nat) (loose : List LI) (r : List (LI × List LI)) (v : AV) : AfC P N Q d loose r k t v h = (Hol (put t d v) h loose ∧ pS_ P N Q r k (put t d v) h) :=
 propext ⟨fun q => ⟨⟨q.out.1⟩, ⟨q.out.2⟩⟩, fun q => ⟨⟨q.1.out, q.2.out⟩⟩⟩
end
attribute [go_sem] tN_ tf_ rc_ u1_ tq_ qY_ q2_ p9_ vr_ lm_
theorem ae_.below {S : Sit} {h : List Row} {w w' : World} (m : ae_ S h w) (b : Below w.heap.size w w') : ae_ S h w' := by
 refine ⟨fun k c e => ?_, m.len, fun l i r q1 q2 => ?_, m.one⟩
 ·rw [b.block k (m.immLt e)]; exact m.imm k c e
 ·obtain ⟨k1, k2, k3, k4⟩ := m.rows l i r q1 q2
  refine ⟨k1, k2, k3, ?_⟩
  cases hb : i.blk with
  | none => rw [hb] at k4; exact k4
  | some k =>
   rw [hb] at k4
   exact ⟨k4.1, k4.2.le (.refl S) (b.block k (m.ownLt ⟨l, i, q1, hb⟩))⟩
theorem a8_.below {S : Sit} {w w' : World} (b : Below w.heap.size w w') : a8_ S w S w' :=
 ⟨.refl S, b.os, b.tape, b.output, b.size, fun k hk _ => b.block k hk, fun _ q => .inl q, fun _ _ q => .inl q⟩
theorem fm_ {S : Sit} : ∀ {vs xs : List Value}, af_ S (vs.map AV.val) xs → xs = vs
 | [], xs, r => by simpa [af_] using r
 | v :: vs, xs, r => by
  simp only [map_cons, af_] at r
  obtain ⟨x, r', e, r1, r2⟩ := r
  simp only [Rep] at r1
  rw [e, r1, fm_ r2]
theorem fu_ {P : Program} {f : FuncId} {vals : List Value} {v : Value}
 (hc : ∀ w, (∀ p ∈ mz_, (P.globalNamed p.1).isSome = true → w.var? P p.1 = some p.2) → Calls P f vals.toArray w fun e w' => e = .returned v ∧ Below w.heap.size w w') (h : List Row) : aa_ P f (vals.map AV.val) h (.val v) := by
 intro K hk S w xs hm hgl hr
 have e := fm_ hr
 have e' : xs = vals.toArray := by cases xs; simp at e; rw [e]
 subst e'
 refine (hc w ?_).mono ?_
 ·intro p hp hs
  obtain ⟨g, hg⟩ := Option.isSome_iff_exists.1 hs
  obtain ⟨E, fr, hw⟩ := hm.imm g p.2 (hgl.1 p hp g hg)
  simp only [World.var?, hg, Option.bind_some, hw]
 ·rintro e w' ⟨rfl, b⟩
  exact ⟨v, .val v, S, h, rfl, a8_.below b, hm.below b, by simp [Rep], hk⟩
theorem n3_ {P : Program} {f : FuncId} {vals : List Value} {v : Value}
 (hc : ∀ w, (∀ g, P.globalNamed "internal/bytealg.MaxLen" = some g → ∃ m, w.cell? ⟨g, 0, none⟩ = some (.int .i64 m)) → Calls P f vals.toArray w fun e w' => e = .returned v ∧ Below w.heap.size w w') (h : List Row) : aa_ P f (vals.map AV.val) h (.val v) := by
 intro K hk S w xs hm hgl hr
 have e := fm_ hr
 have e' : xs = vals.toArray := by cases xs; simp at e; rw [e]
 subst e'
 refine (hc w ?_).mono ?_
 ·intro g hg
  obtain ⟨c, m, h1, h2⟩ := hgl.2 g hg
  obtain ⟨E, fr, hw⟩ := hm.imm g c h1
  exact ⟨m, by simp [World.cell?, hw, h2]⟩
 ·rintro e w' ⟨rfl, b⟩
  exact ⟨v, .val v, S, h, rfl, a8_.below b, hm.below b, by simp [Rep], hk⟩
def aw_ (R : AV → AV → List Nat → Prop) : List AV → List AV → List Nat → Prop
 | [], ds, fs => ds = [] ∧ fs = []
 | c :: cs, ds, fs => ∃ d ds' f f', ds = d :: ds' ∧ fs = f ++ f' ∧ R c d f ∧ aw_ R cs ds' f'
def aR_ (R : AV → AV → List Nat → Prop) : List (List AV) → List (List AV) → List Nat → Prop
 | [], ds, fs => ds = [] ∧ fs = []
 | e :: es, ds, fs => ∃ d ds' f f', ds = d :: ds' ∧ fs = f ++ f' ∧ aw_ R e d f ∧ aR_ R es ds' f'
def Own (H : List Row) : Nat → AV → AV → List Nat → Prop
 | 0, _, _, _ => False
 | n + 1, a, r, fs =>
  match a with
  | .val v => fs = [] ∧ (r = .val v ∨ (v = .slice none 0 0 ∧ ∃ sz, r = .list 0 sz []))
  | .own l k => ∃ row es f, H[l]? = some row ∧ row.es.length = k ∧ aR_ (Own H n) row.es es f ∧ r = .list 0 row.sz es ∧ fs = l :: f
  | .sub l k lo hi => ∃ row es f, H[l]? = some row ∧ row.es.length = k ∧ aR_ (Own H n) row.es es f ∧ r = .list 0 row.sz ((es.take hi).drop lo) ∧ fs = l :: f
  | .agg cs => ∃ ds, aw_ (Own H n) cs ds fs ∧ r = .agg ds
  | .tup cs => ∃ ds, aw_ (Own H n) cs ds fs ∧ r = .tup ds
  | _ => False
theorem aw_.mono {R R' : AV → AV → List Nat → Prop} : ∀ {cs ds : List AV} {fs : List Nat}, (∀ a r f, (∀ l ∈ f, l ∈ fs) → R a r f → R' a r f) → aw_ R cs ds fs → aw_ R' cs ds fs
 | [], _, _, _, h => h
 | c :: cs, ds, fs, hm, h => by
  obtain ⟨d, ds', f, f', e1, e2, h1, h2⟩ := h
  subst e2
  exact ⟨d, ds', f, f', e1, rfl, hm _ _ _ (fun l hl => mem_append_left _ hl) h1, aw_.mono (fun a r g hg => hm a r g fun l hl => mem_append_right _ (hg l hl)) h2⟩
theorem aR_.mono {R R' : AV → AV → List Nat → Prop} : ∀ {cs ds : List (List AV)} {fs : List Nat}, (∀ a r f, (∀ l ∈ f, l ∈ fs) → R a r f → R' a r f) → aR_ R cs ds fs → aR_ R' cs ds fs
 | [], _, _, _, h => h
 | c :: cs, ds, fs, hm, h => by
  obtain ⟨d, ds', f, f', e1, e2, h1, h2⟩ := h
  subst e2
  exact ⟨d, ds', f, f', e1, rfl, aw_.mono (fun a r g hg => hm a r g fun l hl => mem_append_left _ (hg l hl)) h1, aR_.mono (fun a r g hg => hm a r g fun l hl => mem_append_right _ (hg l hl)) h2⟩
theorem Own.keep {H H' : List Row} : ∀ {n : Nat} {a r : AV} {fs : List Nat}, (∀ l ∈ fs, H'[l]? = H[l]?) → Own H n a r fs → Own H' n a r fs
 | 0, _, _, _, _, h => h
 | n + 1, a, r, fs, hk, h => by
  cases a with
  | val v => exact h
  | own l k =>
   obtain ⟨row, es, f, h1, h2, h3, h4, h5⟩ := h
   subst h5
   exact ⟨row, es, f, by rw [hk l (by simp)]; exact h1, h2, aR_.mono (fun a r g hg ho => Own.keep (fun l hl => hk l (mem_cons_of_mem _ (hg l hl))) ho) h3, h4, rfl⟩
  | sub l k lo hi =>
   obtain ⟨row, es, f, h1, h2, h3, h4, h5⟩ := h
   subst h5
   exact ⟨row, es, f, by rw [hk l (by simp)]; exact h1, h2, aR_.mono (fun a r g hg ho => Own.keep (fun l hl => hk l (mem_cons_of_mem _ (hg l hl))) ho) h3, h4, rfl⟩
  | agg cs =>
   obtain ⟨ds, h1, h2⟩ := h
   exact ⟨ds, aw_.mono (fun a r g hg ho => Own.keep (fun l hl => hk l (hg l hl)) ho) h1, h2⟩
  | tup cs =>
   obtain ⟨ds, h1, h2⟩ := h
   exact ⟨ds, aw_.mono (fun a r g hg ho => Own.keep (fun l hl => hk l (hg l hl)) ho) h1, h2⟩
  | _ => exact h.elim
theorem Own.more {H : List Row} : ∀ {n : Nat} {a r : AV} {fs : List Nat}, Own H n a r fs → Own H (n + 1) a r fs
 | 0, _, _, _, h => h.elim
 | n + 1, a, r, fs, h => by
  cases a with
  | val v => exact h
  | own l k =>
   obtain ⟨row, es, f, h1, h2, h3, h4, h5⟩ := h
   exact ⟨row, es, f, h1, h2, aR_.mono (fun a r g _ ho => Own.more ho) h3, h4, h5⟩
  | sub l k lo hi =>
   obtain ⟨row, es, f, h1, h2, h3, h4, h5⟩ := h
   exact ⟨row, es, f, h1, h2, aR_.mono (fun a r g _ ho => Own.more ho) h3, h4, h5⟩
  | agg cs =>
   obtain ⟨ds, h1, h2⟩ := h
   exact ⟨ds, aw_.mono (fun a r g _ ho => Own.more ho) h1, h2⟩
  | tup cs =>
   obtain ⟨ds, h1, h2⟩ := h
   exact ⟨ds, aw_.mono (fun a r g _ ho => Own.more ho) h1, h2⟩
  | _ => exact h.elim
theorem Own.up {H : List Row} {n m : Nat} {a r : AV} {fs : List Nat} (hm : n ≤ m) (h : Own H n a r fs) : Own H m a r fs := by
 induction hm with
 | refl => exact h
 | step _ ih => exact ih.more
theorem aw_.rep {S S' : Sit} {R : AV → AV → List Nat → Prop} (hone : ∀ a x r f, Rep S a x → R a r f → Rep S' r x) : ∀ {as : List AV} {xs : List Value} {rs : List AV} {fs : List Nat}, af_ S as xs → aw_ R as rs fs → af_ S' rs xs
 | [], xs, rs, fs, r, h => by
  obtain ⟨h1, _⟩ := h; subst h1
  simpa [af_] using r
 | a :: as, xs, rs, fs, r, h => by
  obtain ⟨d, ds', f, f', e1, e2, h1, h2⟩ := h
  subst e1
  simp only [af_] at r ⊢
  obtain ⟨v, q, e, r2, r3⟩ := r
  exact ⟨v, q, e, hone a v d f r2 h1, aw_.rep hone r3 h2⟩
theorem aw_.repPre {S S' : Sit} {R : AV → AV → List Nat → Prop} (hone : ∀ a x r f, Rep S a x → R a r f → Rep S' r x) : ∀ {as : List AV} {xs : List Value} {rs : List AV} {fs : List Nat}, ay_ S as xs → aw_ R as rs fs → ay_ S' rs xs ∧ rs.length = as.length
 | [], xs, rs, fs, r, h => by
  obtain ⟨h1, _⟩ := h; subst h1
  simp [ay_]
 | a :: as, xs, rs, fs, r, h => by
  obtain ⟨d, ds', f, f', e1, e2, h1, h2⟩ := h
  subst e1
  simp only [ay_] at r ⊢
  obtain ⟨v, q, e, r2, r3⟩ := r
  have := aw_.repPre hone r3 h2
  exact ⟨⟨v, q, e, hone a v d f r2 h1, this.1⟩, by simp [this.2]⟩
theorem aR_.rep {S S' : Sit} {R : AV → AV → List Nat → Prop} (hone : ∀ a x r f, Rep S a x → R a r f → Rep S' r x) : ∀ {es : List (List AV)} {xs : List Value} {rs : List (List AV)} {fs : List Nat}, am_ S es xs → aR_ R es rs fs →
 am_ S' rs xs ∧ rs.length = es.length ∧ ∀ sz, (∀ e ∈ es, e.length = sz) → ∀ e ∈ rs, e.length = sz
 | [], xs, rs, fs, r, h => by
  obtain ⟨h1, _⟩ := h; subst h1
  simp [am_]
 | d :: es, xs, rs, fs, r, h => by
  obtain ⟨d', ds', f, f', e1, e2, h1, h2⟩ := h
  subst e1
  simp only [am_] at r ⊢
  have p1 := aw_.repPre hone r.1 h1
  have p2 := aR_.rep hone r.2 h2
  refine ⟨⟨p1.1, by rw [p1.2]; exact p2.1⟩, by simp [p2.2.1], fun sz hsz e he => ?_⟩
  rcases mem_cons.1 he with q | q
  ·subst q; rw [p1.2]; exact hsz d (by simp)
  ·exact p2.2.2 sz (fun e he => hsz e (by simp [he])) e q
theorem aR_.len {R : AV → AV → List Nat → Prop} : ∀ {es rs : List (List AV)} {fs : List Nat}, aR_ R es rs fs → rs.length = es.length
 | [], rs, fs, h => by obtain ⟨h, _⟩ := h; subst h; rfl
 | e :: es, rs, fs, h => by
  obtain ⟨d, ds', f, f', e1, e2, h1, h2⟩ := h
  subst e1
  simp [aR_.len h2]
theorem Own.rep {S : Sit} {h : List Row} {w : World} (m : ae_ S h w) : ∀ (n : Nat) (a : AV) (x : Value) (r : AV) (fs : List Nat), Rep S a x → Own h n a r fs → Rep (S.shut w) r x := by
 intro n
 induction n with
 | zero => intro a x r fs _ e; exact e.elim
 | succ n ih =>
  intro a x r fs hr e
  cases a with
  | val v =>
   obtain ⟨_, e | ⟨e1, sz, e2⟩⟩ := e
   ·subst e; simpa [Rep] using hr
   ·subst e1 e2
    simp only [Rep] at hr ⊢
    exact .inl ⟨trivial, trivial, _, _, hr⟩
  | agg cs =>
   obtain ⟨ds, e1, e2⟩ := e
   subst e2
   simp only [Rep] at hr ⊢
   obtain ⟨vs, e3, hr⟩ := hr
   exact ⟨vs, e3, aw_.rep ih hr e1⟩
  | tup cs =>
   obtain ⟨ds, e1, e2⟩ := e
   subst e2
   simp only [Rep] at hr ⊢
   obtain ⟨vs, e3, hr⟩ := hr
   exact ⟨vs, e3, aw_.rep ih hr e1⟩
  | own l k =>
   obtain ⟨row, es, f, hl, hlen, e1, e2, _⟩ := e
   subst e2
   simp only [Rep] at hr
   obtain ⟨_, i, q1, q2, q3⟩ := hr
   obtain ⟨k1, k2, k3, k4⟩ := m.rows l i row q1 hl
   have hx := q3 (by omega)
   cases hb : i.blk with
   | none =>
    rw [hb] at k4
    simp only [sliceAt, hb] at hx
    rw [k4.1] at e1
    obtain ⟨e1, _⟩ := e1; subst e1
    simp only [Rep]
    rcases hx with hx | ⟨_, p, hx⟩
    ·exact .inl ⟨trivial, trivial, _, _, hx⟩
    ·exact .inl ⟨trivial, trivial, _, _, hx⟩
   | some b =>
    rw [hb] at k4
    simp only [sliceAt, hb, reduceCtorEq, false_and, or_false] at hx
    by_cases hne : row.es = []
    ·rw [hne] at e1 k1
     obtain ⟨e1, _⟩ := e1; subst e1
     simp only [Rep]
     rw [k1] at hx
     exact .inl ⟨trivial, trivial, _, _, hx⟩
    obtain ⟨_, c, _, ⟨_, j2, _⟩, j3, j4, j5, j6⟩ := k4.2.cells (.inl hne)
    have p := aR_.rep ih j3 e1
    simp only [Rep]
    right
    have hown : S.ownsB b = true := df_.2 ⟨l, i, q1, hb⟩
    refine ⟨b, 0, i.cap, c, by rw [hx, p.2.1, k1], by rw [p.2.1, ← k1]; exact j5, ?_, p.2.2 _ k3, .inl trivial, ?_, by simpa [Sit.shut, Sit.still] using p.1⟩
    ·simp [Sit.shut, hown, j2]
    ·rw [p.2.1, j4, ← k1, ← k2]
     simpa using Nat.mul_le_mul_right _ j5
  | sub l k lo hi =>
   obtain ⟨row, es, f, hl, hlen, e1, e2, _⟩ := e
   subst e2
   simp only [Rep] at hr
   obtain ⟨_, i, q1, q2, q3⟩ := hr
   obtain ⟨k1, k2, k3, k4⟩ := m.rows l i row q1 hl
   obtain ⟨g1, g2, g3⟩ := q3 (by omega)
   have hesl : es.length = row.es.length := aR_.len e1
   have hlen2 : ((es.take hi).drop lo).length = hi - lo := by simp; omega
   by_cases hz : hi - lo = 0
   ·have hnil : (es.take hi).drop lo = [] := eq_nil_of_length_eq_zero (by omega)
    rw [hnil]
    simp only [Rep]
    rcases g3 with ⟨_, p, q⟩ | ⟨b, off, _, q, _⟩
    ·exact .inl ⟨trivial, trivial, _, _, q⟩
    ·rw [hz] at q; exact .inl ⟨trivial, trivial, _, _, q⟩
   ·have hne : row.es ≠ [] := by intro q; rw [q] at hlen; simp at hlen; omega
    rcases g3 with ⟨hb, p, q⟩ | ⟨b, off, hb, q, hoff⟩
    ·rw [hb] at k4; exact absurd k4.1 hne
    ·rw [hb] at k4
     obtain ⟨_, c, _, ⟨_, j2, _⟩, j3, j4, j5, j6⟩ := k4.2.cells (.inl hne)
     rw [hoff (by omega)] at q
     have p := aR_.rep ih j3 e1
     have p3 := p.2.2 _ k3
     have hd := am_.drop (am_.take (k := hi) p.1) (sz := row.sz) (k := lo) (fun x hx => p3 x (mem_of_mem_take hx))
     simp only [Rep]
     right
     have hown : S.ownsB b = true := df_.2 ⟨l, i, q1, hb⟩
     refine ⟨b, lo * i.sz, i.cap - lo, c, by rw [q, hlen2], by rw [hlen2]; omega, ?_, fun x hx => p3 x (mem_of_mem_take (mem_of_mem_drop hx)), .inl trivial, ?_, ?_⟩
     ·simp [Sit.shut, hown, j2]
     ·rw [hlen2, j4, ← k2, ← Nat.add_mul]
      exact Nat.mul_le_mul_right _ (by omega)
     ·rw [k2]; simpa [Sit.shut, Sit.still] using hd
  | _ => exact e.elim
def b5_ (H : List Row) (a r : AV) : Prop := (a = r ∧ a.plain = true) ∨ ∃ n fs, Own H n a r fs
def aQ_ (H : List Row) : List AV → List AV → Prop
 | [], rs => rs = []
 | a :: as, rs => ∃ r rs', rs = r :: rs' ∧ b5_ H a r ∧ aQ_ H as rs'
theorem aQ_.rep {S : Sit} {H : List Row} {w : World} (m : ae_ S H w) : ∀ {as rs : List AV} {xs : List Value}, aQ_ H as rs → af_ S as xs → af_ (S.shut w) rs xs
 | [], rs, xs, h, r => by subst h; simpa [af_] using r
 | a :: as, rs, xs, h, r => by
  obtain ⟨d, ds, e, h1, h2⟩ := h
  subst e
  simp only [af_] at r ⊢
  obtain ⟨v, q, e, r1, r2⟩ := r
  refine ⟨v, q, e, ?_, aQ_.rep m h2 r2⟩
  rcases h1 with ⟨h1, hp⟩ | ⟨n, fs, h1⟩
  ·subst h1; exact Rep.up (gv_ m) _ _ (hy_ hp r1)
  ·exact Own.rep m n a v d fs r1 h1
theorem ae_.shut {S : Sit} {H : List Row} {w : World} (m : ae_ S H w) : ∀ b c, (S.shut w).imm b = some c → ∃ E fr, w.heap[b]? = some (.cells c E fr) := by
 intro b c q
 simp only [Sit.shut] at q
 split at q
 ·split at q
  ·rename_i c' E fr hb
   simp at q; subst q
   exact ⟨E, fr, hb⟩
  ·simp at q
 ·exact m.imm b c q
theorem cY_.shut {P : Program} {S : Sit} {H : List Row} {w : World} (m : ae_ S H w) (g : cY_ P S) : cY_ P (S.shut w) := cY_.up (gv_ m) (show cY_ P S.still from g)
theorem mI_ {P : Program} {f : FuncId} {as rs : List AV} {H : List Row} {v : Value} (hc : ∀ h, aa_ P f rs h (.val v)) (ha : aQ_ H as rs) {K : AV → List Row → Prop} (hk : K (.val v) H) : callSem P f as H K := by
 intro S w vals hm hgl hr
 have hm0 : ae_ (S.shut w) [] w := ⟨hm.shut, rfl, by simp [Sit.shut], by simp [Sit.shut]⟩
 refine (hc [] (fun r _ => r = .val v) rfl (S.shut w) w vals hm0 (hgl.shut hm) (ha.rep hm hr)).mono ?_
 rintro e w' ⟨v', av, S1, h1, rfl, st, hm1, rv, rfl⟩
 simp only [Rep] at rv
 subst rv
 have b : Below w.heap.size w w' := ⟨st.os, st.tape, st.output, st.size, fun k hk => st.block k hk (by rintro ⟨l, i, q, _⟩; simp [Sit.shut] at q)⟩
 exact ⟨v', .val v', S, H, rfl, a8_.below b, hm.below b, by simp [Rep], hk⟩
theorem mN_ {S : Sit} {H : List Row} {w : World} (m : ae_ S H w) {n : Nat} : ∀ {as rs : List AV} {xs : List Value}, as.mapM (resolve H n) = some rs → af_ S as xs → af_ (S.shut w) rs xs :=
 fun h r => dA_ (fun a x r' h1 h2 => hn_ m n a x r' h1 h2) r h
theorem frozen {P : Program} {f : FuncId} {as rs : List AV} {H : List Row} {v : Value} {n : Nat} (hc : ∀ h, aa_ P f rs h (.val v)) (ha : as.mapM (resolve H n) = some rs) : aa_ P f as H (.val v) := by
 intro K hk S w vals hm hgl hr
 have hm0 : ae_ (S.shut w) [] w := ⟨hm.shut, rfl, by simp [Sit.shut], by simp [Sit.shut]⟩
 refine (hc [] (fun r _ => r = .val v) rfl (S.shut w) w vals hm0 (hgl.shut hm) (mN_ hm ha hr)).mono ?_
 rintro e w' ⟨v', av, S1, h1, rfl, st, hm1, rv, rfl⟩
 simp only [Rep] at rv
 subst rv
 have b : Below w.heap.size w w' := ⟨st.os, st.tape, st.output, st.size, fun k hk => st.block k hk (by rintro ⟨l, i, q, _⟩; simp [Sit.shut] at q)⟩
 exact ⟨v', .val v', S, H, rfl, a8_.below b, hm.below b, by simp [Rep], hk⟩
theorem oD_ {H : List Row} {l : Nat} {E : Tag} {sz n : Nat} {cs : List AV} (hl : H[l]? = some ⟨E, sz, [cs]⟩) (hf : cs.all AV.flat = true) (hn : 0 < cs.length) : resolve H (n + 2) (.ptr l 1 0 0) = some (.iptr cs) := by
 have e : resolve H (n + 2) (.ptr l 1 0 0) = match H[l]? with
  | some r => if r.es.length = 1 then (match r.es[0]? with | some e => if 0 < e.length then ((e.drop 0).mapM (resolve H (n + 1))).map .iptr else none | none => none) else none
  | none => none := rfl
 rw [e, hl]
 simp only [List.length_cons, List.length_nil, Nat.zero_add, if_true, getElem?_cons_zero, hn, drop_zero]
 rw [hc_ hf]; rfl
theorem qs_ {H : List Row} {n : Nat} {f : FuncId} {p p' q q' : List AV} (h1 : p.mapM (resolve H n) = some p') (h2 : q.mapM (resolve H n) = some q') : resolve H (n + 1) (.fn f p q) = some (.fn f p' q') := by
 have e : resolve H (n + 1) (.fn f p q) = match p.mapM (resolve H n), q.mapM (resolve H n) with
  | some p', some q' => some (.fn f p' q')
  | _, _ => none := rfl
 rw [e, h1, h2]
theorem eZ_ {H : List Row} {n : Nat} {a r : AV} (h : resolve H n a = some r) : [a].mapM (resolve H n) = some [r] := by
 rw [mapM_cons, h]; rfl
theorem lL_ {H : List Row} {n : Nat} {a r : AV} {as rs : List AV} (h : resolve H n a = some r) (h2 : as.mapM (resolve H n) = some rs) : (a :: as).mapM (resolve H n) = some (r :: rs) := by
 rw [mapM_cons, h, h2]; rfl
structure dp_ (base : Nat) (H : List Row) (a r : AV) : Prop where
 out : ∃ n fs, Own H n a r fs ∧ fs.Nodup ∧ ∀ l ∈ fs, base ≤ l
def bA_ (P : Program) (f : FuncId) (args : List AV) (r : AV) (Q : AV → Prop) : Prop :=
 ∀ (h : List Row) (K : AV → List Row → Prop), (∀ av hn, dp_ h.length (h ++ hn) av r → Q av → K av (h ++ hn)) → callSem P f args h K
theorem aw_.inner {H : List Row} {R : AV → AV → List Nat → Prop} (hone : ∀ a r f, R a r f → ∀ l ∈ f, ∃ row m es g, H[l]? = some row ∧ aR_ (Own H m) row.es es g ∧ ∀ x ∈ g, x ∈ f) : ∀ {as rs : List AV} {fs : List Nat}, aw_ R as rs fs → ∀ l ∈ fs, ∃ row m es g, H[l]? = some row ∧ aR_ (Own H m) row.es es g ∧ ∀ x ∈ g, x ∈ fs
 | [], rs, fs, h, l, hl => by obtain ⟨_, h⟩ := h; subst h; simp at hl
 | a :: as, rs, fs, h, l, hl => by
  obtain ⟨d, ds', f, f', e1, e2, h1, h2⟩ := h
  subst e2
  rcases mem_append.1 hl with q | q
  ·obtain ⟨row, m, es, g, q1, q2, q3⟩ := hone a d f h1 l q
   exact ⟨row, m, es, g, q1, q2, fun x hx => mem_append_left _ (q3 x hx)⟩
  ·obtain ⟨row, m, es, g, q1, q2, q3⟩ := aw_.inner hone h2 l q
   exact ⟨row, m, es, g, q1, q2, fun x hx => mem_append_right _ (q3 x hx)⟩
theorem aR_.inner {H : List Row} {R : AV → AV → List Nat → Prop} (hone : ∀ a r f, R a r f → ∀ l ∈ f, ∃ row m es g, H[l]? = some row ∧ aR_ (Own H m) row.es es g ∧ ∀ x ∈ g, x ∈ f) : ∀ {as rs : List (List AV)} {fs : List Nat}, aR_ R as rs fs → ∀ l ∈ fs, ∃ row m es g, H[l]? = some row ∧ aR_ (Own H m) row.es es g ∧ ∀ x ∈ g, x ∈ fs
 | [], rs, fs, h, l, hl => by obtain ⟨_, h⟩ := h; subst h; simp at hl
 | a :: as, rs, fs, h, l, hl => by
  obtain ⟨d, ds', f, f', e1, e2, h1, h2⟩ := h
  subst e2
  rcases mem_append.1 hl with q | q
  ·obtain ⟨row, m, es, g, q1, q2, q3⟩ := aw_.inner hone h1 l q
   exact ⟨row, m, es, g, q1, q2, fun x hx => mem_append_left _ (q3 x hx)⟩
  ·obtain ⟨row, m, es, g, q1, q2, q3⟩ := aR_.inner hone h2 l q
   exact ⟨row, m, es, g, q1, q2, fun x hx => mem_append_right _ (q3 x hx)⟩
theorem Own.inner {H : List Row} : ∀ {n : Nat} {a r : AV} {fs : List Nat}, Own H n a r fs → ∀ l ∈ fs, ∃ row m es g, H[l]? = some row ∧ aR_ (Own H m) row.es es g ∧ ∀ x ∈ g, x ∈ fs
 | 0, _, _, _, h => h.elim
 | n + 1, a, r, fs, h => by
  intro l hl
  cases a with
  | val v => obtain ⟨h, _⟩ := h; subst h; simp at hl
  | own l' k =>
   obtain ⟨row, es, f, h1, h2, h3, h4, h5⟩ := h
   subst h5
   rcases mem_cons.1 hl with q | q
   ·subst q; exact ⟨row, n, es, f, h1, h3, fun x hx => mem_cons_of_mem _ hx⟩
   ·obtain ⟨row', m, es', g, q1, q2, q3⟩ := aR_.inner (fun a r f ho => Own.inner ho) h3 l q
    exact ⟨row', m, es', g, q1, q2, fun x hx => mem_cons_of_mem _ (q3 x hx)⟩
  | sub l' k lo hi =>
   obtain ⟨row, es, f, h1, h2, h3, h4, h5⟩ := h
   subst h5
   rcases mem_cons.1 hl with q | q
   ·subst q; exact ⟨row, n, es, f, h1, h3, fun x hx => mem_cons_of_mem _ hx⟩
   ·obtain ⟨row', m, es', g, q1, q2, q3⟩ := aR_.inner (fun a r f ho => Own.inner ho) h3 l q
    exact ⟨row', m, es', g, q1, q2, fun x hx => mem_cons_of_mem _ (q3 x hx)⟩
  | agg cs =>
   obtain ⟨ds, h1, h2⟩ := h
   exact aw_.inner (fun a r f ho => Own.inner ho) h1 l hl
  | tup cs =>
   obtain ⟨ds, h1, h2⟩ := h
   exact aw_.inner (fun a r f ho => Own.inner ho) h1 l hl
  | _ => exact h.elim
theorem aw_.trans {S S' : Sit} {R : AV → AV → List Nat → Prop} : ∀ {as rs : List AV} {fs : List Nat} {xs : List Value}, (∀ a x r f, (∀ l ∈ f, l ∈ fs) → R a r f → Rep S a x → Rep S' a x) → aw_ R as rs fs → af_ S as xs → af_ S' as xs
 | [], rs, fs, xs, _, h, r => by simpa [af_] using r
 | a :: as, rs, fs, xs, hone, h, r => by
  obtain ⟨d, ds', f, f', e1, e2, h1, h2⟩ := h
  subst e2
  simp only [af_] at r ⊢
  obtain ⟨v, q, e, r2, r3⟩ := r
  exact ⟨v, q, e, hone a v d f (fun l hl => mem_append_left _ hl) h1 r2, aw_.trans (fun a x r g hg => hone a x r g fun l hl => mem_append_right _ (hg l hl)) h2 r3⟩
theorem aw_.transPre {S S' : Sit} {R : AV → AV → List Nat → Prop} : ∀ {as rs : List AV} {fs : List Nat} {xs : List Value}, (∀ a x r f, (∀ l ∈ f, l ∈ fs) → R a r f → Rep S a x → Rep S' a x) → aw_ R as rs fs → ay_ S as xs → ay_ S' as xs
 | [], rs, fs, xs, _, h, r => by simp [ay_]
 | a :: as, rs, fs, xs, hone, h, r => by
  obtain ⟨d, ds', f, f', e1, e2, h1, h2⟩ := h
  subst e2
  simp only [ay_] at r ⊢
  obtain ⟨v, q, e, r2, r3⟩ := r
  exact ⟨v, q, e, hone a v d f (fun l hl => mem_append_left _ hl) h1 r2, aw_.transPre (fun a x r g hg => hone a x r g fun l hl => mem_append_right _ (hg l hl)) h2 r3⟩
theorem aR_.trans {S S' : Sit} {R : AV → AV → List Nat → Prop} : ∀ {as rs : List (List AV)} {fs : List Nat} {xs : List Value}, (∀ a x r f, (∀ l ∈ f, l ∈ fs) → R a r f → Rep S a x → Rep S' a x) → aR_ R as rs fs → am_ S as xs → am_ S' as xs
 | [], rs, fs, xs, _, h, r => by simp [am_]
 | a :: as, rs, fs, xs, hone, h, r => by
  obtain ⟨d, ds', f, f', e1, e2, h1, h2⟩ := h
  subst e2
  simp only [am_] at r ⊢
  exact ⟨aw_.transPre (fun a x r g hg => hone a x r g fun l hl => mem_append_left _ (hg l hl)) h1 r.1, aR_.trans (fun a x r g hg => hone a x r g fun l hl => mem_append_right _ (hg l hl)) h2 r.2⟩
theorem Own.trans {S S' : Sit} {H : List Row} : ∀ {n : Nat} {a r : AV} {fs : List Nat} {x : Value}, (∀ l ∈ fs, S'.rows[l]? = S.rows[l]?) → Own H n a r fs → Rep S a x → Rep S' a x
 | 0, _, _, _, _, _, h, _ => h.elim
 | n + 1, a, r, fs, x, hk, h, hr => by
  cases a with
  | val v => simpa [Rep] using hr
  | own l k =>
   obtain ⟨row, es, f, h1, h2, h3, h4, h5⟩ := h
   subst h5
   simp only [Rep] at hr ⊢
   rw [hk l (by simp)]
   exact hr
  | sub l k lo hi =>
   obtain ⟨row, es, f, h1, h2, h3, h4, h5⟩ := h
   subst h5
   simp only [Rep] at hr ⊢
   rw [hk l (by simp)]
   exact hr
  | agg cs =>
   obtain ⟨ds, h1, h2⟩ := h
   simp only [Rep] at hr ⊢
   obtain ⟨vs, e, hr⟩ := hr
   exact ⟨vs, e, aw_.trans (fun a x r g hg ho hx => Own.trans (fun l hl => hk l (hg l hl)) ho hx) h1 hr⟩
  | tup cs =>
   obtain ⟨ds, h1, h2⟩ := h
   simp only [Rep] at hr ⊢
   obtain ⟨vs, e, hr⟩ := hr
   exact ⟨vs, e, aw_.trans (fun a x r g hg ho hx => Own.trans (fun l hl => hk l (hg l hl)) ho hx) h1 hr⟩
  | _ => exact h.elim
def d6_ : bF_ := ⟨0, none, 0, 0⟩
def fj_ : Row := ⟨0, 0, []⟩
def jf_ (fs : List Nat) (base : Nat) (hn : List Row) : List Row := hn.mapIdx fun i r => if fs.contains (base + i) then r else fj_
def in_ (fs : List Nat) (base : Nat) (hn : List bF_) : List bF_ := hn.mapIdx fun i r => if fs.contains (base + i) then r else d6_
theorem oi_ {P : Program} {f : FuncId} {as rs : List AV} {H : List Row} {r : AV} {Q : AV → List Row → Prop} (hc : ∀ (h : List Row) (K : AV → List Row → Prop), (∀ av hn, dp_ h.length (h ++ hn) av r → Q av (h ++ hn) → K av (h ++ hn)) → callSem P f rs h K) (hst : ∀ (n : Nat) (av : AV) (fs : List Nat) (X Y : List Row), Own X n av r fs → (∀ l ∈ fs, Y[l]? = X[l]?) → Q av X → Q av Y)
 (ha : ∀ (S : Sit) (w : World) (xs : List Value), ae_ S H w → af_ S as xs → af_ (S.shut w) rs xs) {K : AV → List Row → Prop} (hk : ∀ av hn, dp_ H.length (H ++ hn) av r → Q av (H ++ hn) → K av (H ++ hn)) : callSem P f as H K := by
 intro S w vals hm hgl hr
 have hlen := hm.len
 let S0 : Sit := { imm := (S.shut w).imm, rows := List.replicate H.length d6_ }
 have hle0 : (S.shut w).le S0 := ⟨fun _ _ e => e, by simp [Sit.shut]⟩
 have hm0 : ae_ S0 (List.replicate H.length fj_) w := by
  refine ⟨hm.shut, by simp [S0], fun l i row q1 q2 => ?_, fun l l' i i' b q1 _ q2 _ => ?_⟩
  ·have e1 := eq_of_mem_replicate (mem_of_getElem? q1)
   have e2 := eq_of_mem_replicate (mem_of_getElem? q2)
   subst e1 e2
   exact ⟨rfl, rfl, by simp [fj_], rfl, rfl⟩
  ·have e1 := eq_of_mem_replicate (mem_of_getElem? q1)
   subst e1; simp [d6_] at q2
 have hrep : af_ S0 rs vals.toList := af_.up hle0 _ _ (ha S w _ hm hr)
 refine (hc (List.replicate H.length fj_) (fun av h' => ∃ hn, h' = List.replicate H.length fj_ ++ hn ∧ dp_ H.length (List.replicate H.length fj_ ++ hn) av r ∧ Q av (List.replicate H.length fj_ ++ hn)) (fun av hn hf hq => ⟨hn, rfl, by simpa using hf, hq⟩) S0 w vals hm0 ((hgl.shut hm).up hle0) hrep).mono ?_
 rintro e w' ⟨v, av, S1, h1, rfl, st, hm1, rv, hn, rfl, ⟨n, fs, ho, hnd, hge⟩, hQ⟩
 have hno : ∀ b, ¬ S0.owns b := by
  rintro b ⟨l, i, q1, q2⟩
  have e1 := eq_of_mem_replicate (mem_of_getElem? q1)
  subst e1; simp [d6_] at q2
 have hb : Below w.heap.size w w' := ⟨st.os, st.tape, st.output, st.size, fun k hk => st.block k hk (hno k)⟩
 have hnew : ∀ b, S1.owns b → w.heap.size ≤ b := fun b hb => (st.ownNew b hb).resolve_left (hno b)
 have hl1 : S1.rows.length = H.length + hn.length := by rw [hm1.len]; simp
 have hm' := hm.below hb
 let S2 : Sit := { imm := S.imm, rows := S.rows ++ in_ fs H.length (S1.rows.drop H.length) }
 have hrows : ∀ l ∈ fs, S2.rows[l]? = S1.rows[l]? := by
  intro l hl
  have hg := hge l hl
  show (S.rows ++ in_ fs H.length (S1.rows.drop H.length))[l]? = _
  rw [getElem?_append_right (by omega), hlen]
  simp only [in_, getElem?_mapIdx, getElem?_drop]
  have e : H.length + (l - H.length) = l := by omega
  rw [e]
  cases S1.rows[l]? with
  | none => rfl
  | some i => simp [hl]
 have hR : ∀ l ∈ fs, (H ++ jf_ fs H.length hn)[l]? = (List.replicate H.length fj_ ++ hn)[l]? := by
  intro l hl
  have hg := hge l hl
  rw [getElem?_append_right hg, getElem?_append_right (by simpa using hg)]
  simp only [jf_, getElem?_mapIdx, length_replicate]
  have e : H.length + (l - H.length) = l := by omega
  rw [e]
  cases hn[l - H.length]? with
  | none => rfl
  | some i => simp [hl]
 have hS2 : S.le S2 := ⟨fun _ _ e => e, fun l i e => ⟨i, by
  show (S.rows ++ _)[l]? = _
  rw [getElem?_append_left (List.getElem?_eq_some_iff.1 e).1]; exact e, Nat.le_refl _, fun _ => rfl⟩⟩
 have hcase : ∀ (l : Nat) (i : bF_), S2.rows[l]? = some i → (l < H.length ∧ S.rows[l]? = some i) ∨ (H.length ≤ l ∧ l ∈ fs ∧ S1.rows[l]? = some i) ∨ (H.length ≤ l ∧ l ∉ fs ∧ i = d6_) := by
  intro l i q
  by_cases hlt : l < H.length
  ·left
   refine ⟨hlt, ?_⟩
   have : (S.rows ++ in_ fs H.length (S1.rows.drop H.length))[l]? = some i := q
   rwa [getElem?_append_left (by omega)] at this
  ·right
   by_cases hf : l ∈ fs
   ·left; exact ⟨by omega, hf, by rw [← hrows l hf]; exact q⟩
   ·right
    refine ⟨by omega, hf, ?_⟩
    have : (S.rows ++ in_ fs H.length (S1.rows.drop H.length))[l]? = some i := q
    rw [getElem?_append_right (by omega), hlen] at this
    simp only [in_, getElem?_mapIdx, getElem?_drop, Option.map_eq_some_iff] at this
    obtain ⟨j, _, e⟩ := this
    have e' : H.length + (l - H.length) = l := by omega
    rw [e'] at e
    simp [hf] at e
    exact e.symm
 have hown2 : ∀ b, S2.owns b → S.owns b ∨ (w.heap.size ≤ b) := by
  rintro b ⟨l, i, q1, q2⟩
  rcases hcase l i q1 with ⟨_, q⟩ | ⟨_, _, q⟩ | ⟨_, _, q⟩
  ·exact .inl ⟨l, i, q, q2⟩
  ·exact .inr (hnew b ⟨l, i, q, q2⟩)
  ·subst q; simp [d6_] at q2
 have hm2 : ae_ S2 (H ++ jf_ fs H.length hn) w' := by
  refine ⟨hm'.imm, by simp only [S2, List.length_append, in_, jf_, length_mapIdx, length_drop, hl1, hlen]; omega, fun l i row q1 q2 => ?_, fun l l' i i' b q1 q1' q2 q2' => ?_⟩
  ·rcases hcase l i q1 with ⟨hlt, q⟩ | ⟨hge', hf, q⟩ | ⟨hge', hf, q⟩
   ·rw [getElem?_append_left hlt] at q2
    obtain ⟨k1, k2, k3, k4⟩ := hm'.rows l i row q q2
    refine ⟨k1, k2, k3, ?_⟩
    cases hbk : i.blk with
    | none => rw [hbk] at k4; exact k4
    | some b =>
     rw [hbk] at k4
     exact ⟨k4.1, k4.2.le hS2 rfl⟩
   ·rw [hR l hf] at q2
    obtain ⟨k1, k2, k3, k4⟩ := hm1.rows l i row q q2
    refine ⟨k1, k2, k3, ?_⟩
    cases hbk : i.blk with
    | none => rw [hbk] at k4; exact k4
    | some b =>
     rw [hbk] at k4
     have hbig := hnew b ⟨l, i, q, hbk⟩
     refine ⟨?_, ?_⟩
     ·cases hi : S.imm b with
      | none => rfl
      | some d => have := hm.immLt hi; omega
     ·have k5 := k4.2
      unfold ba_ at k5 ⊢
      split at k5
      case h_2 => exact k5
      case h_1 =>
       obtain ⟨c, j2, j3, j4⟩ := k5
       refine ⟨c, j2, ?_, j4⟩
       obtain ⟨row', m, es, g, p1, p2, p3⟩ := ho.inner l hf
       rw [q2] at p1
       obtain rfl := Option.some.inj p1
       exact aR_.trans (fun a x r g' hg' hoa hx => Own.trans (fun l' hl' => hrows l' (p3 l' (hg' l' hl'))) hoa hx) p2 j3
      case h_3 =>
       obtain ⟨⟨c, j2, j3, j4⟩, j5⟩ := k5
       refine ⟨⟨c, j2, ?_, j4⟩, j5⟩
       obtain ⟨row', m, es, g, p1, p2, p3⟩ := ho.inner l hf
       rw [q2] at p1
       obtain rfl := Option.some.inj p1
       exact aR_.trans (fun a x r g' hg' hoa hx => Own.trans (fun l' hl' => hrows l' (p3 l' (hg' l' hl'))) hoa hx) p2 j3
      case h_4 =>
       obtain ⟨c, fr, j2, j3, j4⟩ := k5
       refine ⟨c, fr, j2, ?_, j4⟩
       obtain ⟨row', m, es, g, p1, p2, p3⟩ := ho.inner l hf
       rw [q2] at p1
       obtain rfl := Option.some.inj p1
       exact aR_.trans (fun a x r g' hg' hoa hx => Own.trans (fun l' hl' => hrows l' (p3 l' (hg' l' hl'))) hoa hx) p2 j3
   ·subst q
    rw [getElem?_append_right hge'] at q2
    simp only [jf_, getElem?_mapIdx, Option.map_eq_some_iff] at q2
    obtain ⟨j, _, e⟩ := q2
    have e' : H.length + (l - H.length) = l := by omega
    rw [e'] at e
    simp [hf] at e
    subst e
    exact ⟨rfl, rfl, by simp [fj_], rfl, rfl⟩
  ·rcases hcase l i q1 with ⟨_, q⟩ | ⟨_, _, q⟩ | ⟨_, _, q⟩ <;> rcases hcase l' i' q1' with ⟨_, q'⟩ | ⟨_, _, q'⟩ | ⟨_, _, q'⟩
   ·exact hm.one l l' i i' b q q' q2 q2'
   ·have h1 := hm.ownLt ⟨l, i, q, q2⟩
    have h2 := hnew b ⟨l', i', q', q2'⟩
    omega
   ·subst q'; simp [d6_] at q2'
   ·have h1 := hm.ownLt ⟨l', i', q', q2'⟩
    have h2 := hnew b ⟨l, i, q, q2⟩
    omega
   ·exact hm1.one l l' i i' b q q' q2 q2'
   ·subst q'; simp [d6_] at q2'
   ·subst q; simp [d6_] at q2
   ·subst q; simp [d6_] at q2
   ·subst q; simp [d6_] at q2
 refine ⟨v, av, S2, H ++ jf_ fs H.length hn, rfl, ⟨hS2, hb.os, hb.tape, hb.output, hb.size, fun b hlt _ => hb.block b hlt, hown2, fun b c q => .inl q⟩, hm2, Own.trans hrows ho rv, hk av _ ⟨n, fs, ho.keep hR, hnd, hge⟩ (hst n av fs _ _ ho hR hQ)⟩
theorem ps_ {P : Program} {f : FuncId} {as rs : List AV} {H : List Row} {r : AV} {Q : AV → Prop} (hc : bA_ P f rs r Q) (ha : ∀ (S : Sit) (w : World) (xs : List Value), ae_ S H w → af_ S as xs → af_ (S.shut w) rs xs) {K : AV → List Row → Prop} (hk : ∀ av hn, dp_ H.length (H ++ hn) av r → Q av → K av (H ++ hn)) : callSem P f as H K := oi_ (Q := fun a _ => Q a) hc (fun _ _ _ _ _ _ _ q => q) ha hk
theorem qh_ {P : Program} {f : FuncId} {as rs : List AV} {H : List Row} {r : AV} {Q : AV → Prop} (hc : bA_ P f rs r Q) (ha : aQ_ H as rs) {K : AV → List Row → Prop} (hk : ∀ av hn, dp_ H.length (H ++ hn) av r → Q av → K av (H ++ hn)) : callSem P f as H K :=
 ps_ hc (fun S w xs hm hr => ha.rep hm hr) hk
theorem eY_ {P : Program} {f : FuncId} {fn : Func} {lf : LF} {args : List AV} {r : AV} {Q : AV → Prop} (hmx : P.follows .mixedOrders = true) (hf : P.funcs[f]? = some fn) (hl : as_ P fn lf) (hn : args.length = lf.np)
 (hw : ∀ h : List Row, Ex P lf.N (cu_ lf.res fun av h' => ∃ hn, h' = h ++ hn ∧ dp_ h.length (h ++ hn) av r ∧ Q av) lf.body [] (eO_ args) h) : bA_ P f args r Q := by
 intro h K hk
 refine (bg_ hmx hf hl (b4_ hn (hw h))).mono ?_
 rintro a h' ⟨hn, rfl, h1, h2⟩
 exact hk a hn h1 h2
def txt (l : List UInt8) : ByteArray := ⟨l.toArray⟩
theorem iF_ (s : ByteArray) : s = txt s.data.toList := by cases s; rfl
theorem tQ_ (l : List UInt8) : (⟨l.toArray⟩ : ByteArray) = txt l := rfl
theorem bL_ (l : List UInt8) : (txt l).size = l.length := by simp [txt, ByteArray.size]
theorem bu_ (l : List UInt8) : (txt l).data.toList = l := by simp [txt]
theorem o3_ (l : List UInt8) : (txt l).toList = l := by rw [dl_, bu_]
theorem oL_ (a b : List UInt8) : (txt a = txt b) = (a = b) := by
 apply propext; constructor
 ·intro h; have := congrArg (fun x => x.data.toList) h; simpa [bu_] using this
 ·intro h; rw [h]
theorem tY_ (l : List UInt8) (i : Nat) : (txt l)[i]? = l[i]? := by
 by_cases h : i < l.length
 ·rw [getElem?_pos (txt l) i (by rw [bL_]; exact h), getElem?_eq_getElem h]
  congr 1
 ·rw [getElem?_neg (txt l) i (by rw [bL_]; exact h), getElem?_eq_none (by omega)]
theorem nK_ (l : List UInt8) (i j : Nat) : (txt l).extract i j = txt ((l.take j).drop i) := by
 rw [iF_ ((txt l).extract i j)]
 congr 1
 rw [ByteArray.data_extract]
 simp [txt, extract_eq_drop_take', ]
theorem oK_ (a b : List UInt8) : txt a ++ txt b = txt (a ++ b) := by
 rw [iF_ (txt a ++ txt b)]
 congr 1
theorem bv_ (q : Bool) (a b : List UInt8) (h : a.length + b.length ≤ 9223372036854775807) : bi_ .add q (.val (.string (txt a))) (.val (.string (txt b))) = some (.val (.string (txt (a ++ b)))) := by
 simp only [bi_, binOp, Op.stringOp, bL_]
 have h' : ¬ (((a.length + b.length : Nat) : Int) > IntKind.i64.max) := by
  have : IntKind.i64.max = 9223372036854775807 := by decide
  rw [this]; omega
 rw [if_neg h', oK_]
 rfl
theorem tV_ (q : Bool) (a b : Int) (hb : b ≠ 0) : bi_ .quo q (.val (.int .i64 a)) (.val (.int .i64 b)) = some (.val (.int .i64 (IntKind.i64.wrap (a.tdiv b)))) := by
 have : bi_ .quo q (.val (.int .i64 a)) (.val (.int .i64 b)) = ec_ (Op.intDiv .quo .i64 a b) := rfl
 rw [this, Op.intDiv, if_neg hb]; rfl
theorem tK_ (q : Bool) (a b : Int) (hb : b ≠ 0) : bi_ .rem q (.val (.int .i64 a)) (.val (.int .i64 b)) = some (.val (.int .i64 (a.tmod b))) := by
 have : bi_ .rem q (.val (.int .i64 a)) (.val (.int .i64 b)) = ec_ (Op.intDiv .rem .i64 a b) := rfl
 rw [this, Op.intDiv, if_neg hb]; rfl
theorem r6_ (q : Bool) (a b : Int) : bi_ .sub q (.val (.int .u8 a)) (.val (.int .u8 b)) = some (.val (.int .u8 (IntKind.u8.wrap (a - b)))) := rfl
theorem py_ {n : Int} (h1 : 0 ≤ n) (h2 : n ≤ 255) : IntKind.u8.wrap n = n := by
 rw [IntKind.wrap_u8]; omega
theorem sb_ {a b : Int} (h : 0 ≤ a) : a.tdiv b = a / b := Int.tdiv_eq_ediv_of_nonneg h
theorem qX_ {a b : Int} (h : 0 ≤ a) : a.tmod b = a % b := Int.tmod_eq_emod_of_nonneg h
theorem oY_ (b : UInt8) : b.toNat < 256 := b.toNat_lt
theorem mv_ (b c : UInt8) : (((b.toNat : Nat) : Int) = ((c.toNat : Nat) : Int)) = (b = c) := by
 apply propext; constructor
 ·intro h; exact UInt8.toNat_inj.1 (by omega)
 ·intro h; rw [h]
theorem lK_ (b : UInt8) : eM_ [.val (.int .u8 b.toNat)] = some b := by
 simp [eM_]
theorem pF_ {n : Int} (h1 : 0 ≤ n) (h2 : n ≤ 255) : eM_ [.val (.int .u8 n)] = some (UInt8.ofNat n.toNat) := by
 simp only [eM_]
 have : ((UInt8.ofNat n.toNat).toNat : Int) = n := by
  rw [UInt8.toNat_ofNat']; omega
 rw [if_pos this]
theorem l6_ (l : List UInt8) (i : Nat) : (aA_ l)[i]? = (l[i]?).map fun b => [.val (.int .u8 b.toNat)] := by simp [aA_]
theorem cI_ (l : List UInt8) : (aA_ l).length = l.length := by simp [aA_]
theorem dd_ : ∀ (l : List UInt8), (aA_ l).mapM eM_ = some l
 | [] => rfl
 | b :: l => by
  have := dd_ l
  simp only [aA_, map_cons, mapM_cons] at this ⊢
  rw [lK_]
  simp [this]
theorem cQ_ {α : Type} (l : List α) (k : Nat) (h : k < l.length) : l.drop k = l[k] :: l.drop (k + 1) := drop_eq_getElem_cons h
theorem tm_ {α : Type} {a b : Nat} {x y : α} (h : a ≤ b) : (if a ≤ b then x else y) = x := if_pos h
theorem tr_ {α : Type} {a b : Int} {x y : α} (h : a ≤ b) : (if a ≤ b then x else y) = x := if_pos h
theorem rC_ {α : Type} {a b c d : Nat} {x y : α} (h : a ≤ b) (h2 : c ≤ d) : (if a ≤ b ∧ c ≤ d then x else y) = x := if_pos ⟨h, h2⟩
attribute [go_sem] getElem_cons_zero getElem_cons_succ
theorem tg_ {p : List AV → Prop} (x : List AV) : (∀ e ∈ [x], p e) = p x := by simp
theorem vo_ : List.range 1 = [0] := rfl
theorem uX_ : List.range 2 = [0, 1] := rfl
theorem vF_ : List.range 3 = [0, 1, 2] := rfl
section
variable {P : Program} {N : Nat} {Q : dB_} {t : Nat → AV} {h : List Row}
theorem hr_ {b : LC} {id : Nat} {k : List Fr} (I : Nat → (Nat → AV) → List Row → Prop) (n : Nat) (E : (Nat → AV) → List Row → Prop) (h0 : I n t h)
 (hr : ∀ (J : Nat → (Nat → AV) → List Row → Prop), (∀ m t h, I m t h → J m t h) → ∀ (k' : List Fr), (∀ t h, E t h → ExK P N Q k' .normal t h) → ∀ n t h, I n t h → Ex P N Q b (.loop J n :: .blk id :: k') t h)
 (hx : ∀ t h, E t h → ExK P N Q k .normal t h) : Ex P N Q (.loop b) (.blk id :: k) t h :=
 aJ_ I n h0 fun J hJ n t h hi => hr J hJ k hx n t h hi
end
theorem v6_ : List.range 0 = [] := rfl
attribute [go_sem] v6_ d1_ tg_ vo_ uX_ vF_ AV.flat mapM_cons
attribute [go_sem] tm_ tr_ rC_ tQ_ bL_ bu_ o3_ oL_ tY_ nK_ bv_ tV_ tK_ k8_ r6_ py_ sb_ qX_ lK_ pF_ l6_ cI_ vU_
theorem kL_ (S : Sit) : ∀ vs : List Value, af_ S (vs.map AV.val) vs
 | [] => by simp [af_]
 | v :: vs => by simp only [map_cons, af_]; exact ⟨v, vs, rfl, by simp [Rep], kL_ S vs⟩
theorem qg_ {P : Program} {f : FuncId} {vals us : List Value}
 (hc : ∀ w, (∀ p ∈ mz_, (P.globalNamed p.1).isSome = true → w.var? P p.1 = some p.2) → Calls P f vals.toArray w fun e w' => e = .returned (.tuple us.toArray) ∧ RowKit.Below w.heap.size w w') (h : List Row) : aa_ P f (vals.map AV.val) h (.tup (us.map AV.val)) := by
 intro K hk S w xs hm hgl hr
 have e := fm_ hr
 have e' : xs = vals.toArray := by cases xs; simp at e; rw [e]
 subst e'
 refine (hc w ?_).mono ?_
 ·intro p hp hs
  obtain ⟨g, hg⟩ := Option.isSome_iff_exists.1 hs
  obtain ⟨E, fr, hw⟩ := hm.imm g p.2 (hgl.1 p hp g hg)
  simp only [World.var?, hg, Option.bind_some, hw]
 ·rintro e w' ⟨rfl, b⟩
  exact ⟨_, .tup (us.map AV.val), S, h, rfl, a8_.below b, hm.below b, by simp only [Rep]; exact ⟨_, rfl, by simpa using kL_ S us⟩, hk⟩
def AV.solid : AV → Bool
 | .val _ => true
 | .tup cs => cs.all fun | .val _ => true | _ => false
 | _ => false
theorem kC_ {S S' : Sit} : ∀ {cs : List AV} {xs : List Value}, (cs.all fun | .val _ => true | _ => false) = true → af_ S cs xs → af_ S' cs xs
 | [], xs, _, r => by simpa [af_] using r
 | c :: cs, xs, h, r => by
  simp only [all_cons, Bool.and_eq_true] at h
  simp only [af_] at r ⊢
  obtain ⟨v, q, e, r1, r2⟩ := r
  refine ⟨v, q, e, ?_, kC_ h.2 r2⟩
  cases c with
  | val u => simpa [Rep] using r1
  | _ => simp at h
theorem iZ_ {S S' : Sit} {a : AV} {x : Value} (h : a.solid = true) (r : Rep S a x) : Rep S' a x := by
 cases a with
 | val v => simpa [Rep] using r
 | tup cs =>
  simp only [Rep] at r ⊢
  obtain ⟨vs, e, r⟩ := r
  exact ⟨vs, e, kC_ h r⟩
 | _ => simp [AV.solid] at h
theorem ox_ {P : Program} {f : FuncId} {as rs : List AV} {H : List Row} {r : AV} {n : Nat} (hs : r.solid = true) (hc : ∀ h, aa_ P f rs h r) (ha : as.mapM (resolve H n) = some rs) : aa_ P f as H r := by
 intro K hk S w vals hm hgl hr
 have hm0 : ae_ (S.shut w) [] w := ⟨hm.shut, rfl, by simp [Sit.shut], by simp [Sit.shut]⟩
 refine (hc [] (fun q _ => q = r) rfl (S.shut w) w vals hm0 (hgl.shut hm) (mN_ hm ha hr)).mono ?_
 rintro e w' ⟨v', av, S1, h1, rfl, st, hm1, rv, rfl⟩
 have b : Below w.heap.size w w' := ⟨st.os, st.tape, st.output, st.size, fun k hk => st.block k hk (by rintro ⟨l, i, q, _⟩; simp [Sit.shut] at q)⟩
 exact ⟨v', _, S, H, rfl, a8_.below b, hm.below b, iZ_ hs rv, hk⟩
theorem hL_ {H : List Row} {l k n : Nat} {r : Row} (hl : H[l]? = some r) (hk : r.es.length = k) (hf : ∀ e ∈ r.es, e.all AV.flat = true) : resolve H (n + 2) (.own l k) = some (.list 0 r.sz r.es) := by
 have e : resolve H (n + 2) (.own l k) = match H[l]? with
  | some r => if r.es.length = k then (r.es.mapM fun (e : List AV) => e.mapM (resolve H (n + 1))).map (.list 0 r.sz) else none
  | none => none := rfl
 rw [e, hl]
 simp only [hk, if_true]
 rw [hW_ hf]
 rfl
theorem ib_ (g : FuncId) (caps : List AV) (h : caps.all AV.flat = true) : (AV.fn g [] caps).plain = true := by simp only [AV.plain, h]; rfl
theorem gm_ (tk sz : Nat) (es : List (List AV)) : (AV.list tk sz es).plain = true := rfl
theorem tp_ {p : List AV → Prop} (x y : List AV) : (∀ e ∈ [x, y], p e) = (p x ∧ p y) := by simp
attribute [go_sem] tp_
def fU_ (zs : List Int) : List (List AV) := zs.map fun z => [.val (.int .i64 z)]
theorem oR_ (zs : List Int) : (fU_ zs).length = zs.length := by simp [fU_]
theorem oW_ (a b : List Int) : fU_ a ++ fU_ b = fU_ (a ++ b) := by simp [fU_]
theorem Own.val {H : List Row} {n : Nat} {a : AV} {v : Value} {fs : List Nat} (h : Own H n a (.val v) fs) : a = .val v ∧ fs = [] := by
 cases n with
 | zero => exact h.elim
 | succ n =>
  cases a with
  | val u =>
   obtain ⟨h1, h2 | ⟨_, _, h2⟩⟩ := h
   ·injection h2 with q; subst q; exact ⟨rfl, h1⟩
   ·cases h2
  | own l k => obtain ⟨_, _, _, _, _, _, q, _⟩ := h; cases q
  | sub l k lo hi => obtain ⟨_, _, _, _, _, _, q, _⟩ := h; cases q
  | agg cs => obtain ⟨_, _, q⟩ := h; cases q
  | tup cs => obtain ⟨_, _, q⟩ := h; cases q
  | _ => exact h.elim
theorem rT_ (out : List Int) (x : Int) : fU_ out ++ [[AV.val (Value.int .i64 x)]] = fU_ (out ++ [x]) := oW_ out [x]
theorem re_ {p : List AV → Prop} : (∀ e ∈ ([] : List (List AV)), p e) = True := by simp
attribute [go_sem] oR_ rT_ re_
inductive Sch where
 | int
 | str
 | bool
 | list (fs : List Sch)
def aI_ (g : List AV → Int → List AV × Int) : List (List AV) → Int → List (List AV) × Int
 | [], k => ([], k)
 | e :: es, k => ((g e k).1 :: (aI_ g es (g e k).2).1, (aI_ g es (g e k).2).2)
def b9_ (g : List AV → Int → Int) : List (List AV) → Int → Int
 | [], k => k
 | e :: es, k => if g e k < 0 then -1 else b9_ g es (g e k)
def aX_ (g : List AV → Nat) : List (List AV) → Nat
 | [] => 0
 | e :: es => g e + aX_ g es
section
variable (mt : Int → ByteArray)
mutual
def a0_ : Sch → AV → Int → AV × Int
 | .int, _, k => (.val (.int .i64 k), k + 1)
 | .str, _, k => (.val (.string (mt k)), k + 1)
 | .bool, _, k => (.val (.bool (decide (k % 3 = 0))), k + 1)
 | .list fs, .list tk sz es, k => (.list tk sz (aI_ (a9_ fs) es k).1, (aI_ (a9_ fs) es k).2)
 | .list _, a, k => (a, k)
def a9_ : List Sch → List AV → Int → List AV × Int
 | s :: ss, c :: cs, k => ((a0_ s c k).1 :: (a9_ ss cs (a0_ s c k).2).1, (a9_ ss cs (a0_ s c k).2).2)
 | _, cs, k => (cs, k)
end
mutual
def bx_ : Sch → AV → Int → Int
 | .int, .val (.int .i64 n), k => if n = k then k + 1 else -1
 | .str, .val (.string s), k => if s = mt k then k + 1 else -1
 | .bool, .val (.bool b), k => if b = decide (k % 3 = 0) then k + 1 else -1
 | .list fs, .list _ _ es, k => b9_ (b8_ fs) es k
 | _, _, _ => -1
def b8_ : List Sch → List AV → Int → Int
 | s :: ss, c :: cs, k => if bx_ s c k < 0 then -1 else b8_ ss cs (bx_ s c k)
 | _, _, k => k
end
end
mutual
def aK_ : Sch → AV → Nat
 | .list fs, .list _ _ es => aX_ (aU_ fs) es
 | .list _, _ => 0
 | _, _ => 1
def aU_ : List Sch → List AV → Nat
 | s :: ss, c :: cs => aK_ s c + aU_ ss cs
 | _, _ => 0
end
mutual
def aL_ : Sch → AV → Prop
 | .int, a => ∃ n, a = .val (.int .i64 n)
 | .str, a => ∃ s, a = .val (.string s)
 | .bool, a => ∃ b, a = .val (.bool b)
 | .list fs, a => ∃ es, a = .list 0 fs.length es ∧ ∀ e ∈ es, aB_ fs e
def aB_ : List Sch → List AV → Prop
 | [], cs => cs = []
 | s :: ss, cs => ∃ c r, cs = c :: r ∧ aL_ s c ∧ aB_ ss r
end
variable {mt : Int → ByteArray}
theorem jw_ (g : List AV → Int → List AV × Int) : ∀ (xs : List (List AV)) (x : List AV) (k : Int), aI_ g (xs ++ [x]) k = ((aI_ g xs k).1 ++ [(g x (aI_ g xs k).2).1], (g x (aI_ g xs k).2).2)
 | [], x, k => rfl
 | y :: xs, x, k => by
  rw [cons_append, aI_, jw_ g xs x]; rfl
theorem gs_ (g : List AV → Int → List AV × Int) : ∀ (xs : List (List AV)) (k : Int), (aI_ g xs k).1.length = xs.length
 | [], k => rfl
 | y :: xs, k => by rw [aI_, List.length_cons, gs_ g xs]; rfl
theorem da_ {g : List AV → Int → List AV × Int} {c : List AV → Nat} {xs : List (List AV)} (hg : ∀ x ∈ xs, ∀ k, (g x k).2 = k + c x) (k : Int) : (aI_ g xs k).2 = k + aX_ c xs := by
 induction xs generalizing k with
 | nil => simp [aI_, aX_]
 | cons y xs ih =>
  rw [aI_, aX_]
  simp only
  rw [ih (fun x hx => hg x (by simp [hx])), hg y (by simp)]
  omega
theorem rY_ {g : List AV → Int → List AV × Int} {d : List AV → Int → Int} {c : List AV → Nat} {xs : List (List AV)} (hg : ∀ x ∈ xs, ∀ k, (g x k).2 = k + c x) (hd : ∀ x ∈ xs, ∀ k, 0 ≤ k → d (g x k).1 k = (g x k).2) (k : Int) (hk : 0 ≤ k) : b9_ d (aI_ g xs k).1 k = (aI_ g xs k).2 := by
 induction xs generalizing k with
 | nil => rfl
 | cons y xs ih =>
  rw [aI_]
  simp only [b9_]
  rw [hd y (by simp) k hk, hg y (by simp), if_neg (by omega)]
  exact ih (fun x hx => hg x (by simp [hx])) (fun x hx => hd x (by simp [hx])) _ (by omega)
mutual
theorem gg_ : ∀ (s : Sch) (a : AV) (k : Int), (a0_ mt s a k).2 = k + aK_ s a
 | .int, a, k => by simp [a0_, aK_]
 | .str, a, k => by simp [a0_, aK_]
 | .bool, a, k => by simp [a0_, aK_]
 | .list fs, .list tk sz es, k => by
  simp only [a0_, aK_]
  exact da_ (fun x _ k => dm_ fs x k) k
 | .list fs, .val v, k => by simp [a0_, aK_]
 | .list fs, .iptr cs, k => by simp [a0_, aK_]
 | .list fs, .ptr _ _ _ _, k => by simp [a0_, aK_]
 | .list fs, .own _ _, k => by simp [a0_, aK_]
 | .list fs, .sub _ _ _ _, k => by simp [a0_, aK_]
 | .list fs, .mp _, k => by simp [a0_, aK_]
 | .list fs, .agg _, k => by simp [a0_, aK_]
 | .list fs, .tup _, k => by simp [a0_, aK_]
 | .list fs, .fn _ _ _, k => by simp [a0_, aK_]
 | .list fs, .undef, k => by simp [a0_, aK_]
theorem dm_ : ∀ (fs : List Sch) (cs : List AV) (k : Int), (a9_ mt fs cs k).2 = k + aU_ fs cs
 | [], cs, k => by simp [a9_, aU_]
 | s :: ss, [], k => by simp [a9_, aU_]
 | s :: ss, c :: cs, k => by
  simp only [a9_, aU_]
  rw [dm_ ss cs, gg_ s c]; omega
end
mutual
theorem lM_ : ∀ (s : Sch) (a : AV) (k : Int), aL_ s a → 0 ≤ k → bx_ mt s (a0_ mt s a k).1 k = (a0_ mt s a k).2
 | .int, a, k, _, hk => by simp [a0_, bx_]
 | .str, a, k, _, hk => by simp [a0_, bx_]
 | .bool, a, k, _, hk => by simp [a0_, bx_]
 | .list fs, a, k, h, hk => by
  unfold aL_ at h
  obtain ⟨es, rfl, h⟩ := h
  simp only [a0_, bx_]
  exact rY_ (fun x _ k => dm_ fs x k) (fun x hx k hk => oB_ fs x k (h x hx) hk) k hk
theorem oB_ : ∀ (fs : List Sch) (cs : List AV) (k : Int), aB_ fs cs → 0 ≤ k → b8_ mt fs (a9_ mt fs cs k).1 k = (a9_ mt fs cs k).2
 | [], cs, k, _, hk => by simp [a9_, b8_]
 | s :: ss, cs, k, h, hk => by
  unfold aB_ at h
  obtain ⟨c, r, rfl, h1, h2⟩ := h
  simp only [a9_, b8_]
  rw [lM_ s c k h1 hk, gg_, if_neg (by omega)]
  exact oB_ ss r _ h2 (by omega)
end
mutual
theorem lQ_ : ∀ (s : Sch) (a : AV) (k : Int), aL_ s a → aL_ s (a0_ mt s a k).1
 | .int, a, k, _ => by simp [a0_, aL_]
 | .str, a, k, _ => by simp [a0_, aL_]
 | .bool, a, k, _ => by simp [a0_, aL_]
 | .list fs, a, k, h => by
  unfold aL_ at h
  obtain ⟨es, rfl, h⟩ := h
  simp only [a0_, aL_]
  exact ⟨_, rfl, kT_ (fun x hx k => oA_ fs x k (h x hx)) k⟩
theorem oA_ : ∀ (fs : List Sch) (cs : List AV) (k : Int), aB_ fs cs → aB_ fs (a9_ mt fs cs k).1
 | [], cs, k, h => by unfold aB_ at h; simp [a9_, aB_, h]
 | s :: ss, cs, k, h => by
  unfold aB_ at h
  obtain ⟨c, r, rfl, h1, h2⟩ := h
  simp only [a9_]
  unfold aB_
  exact ⟨_, _, rfl, lQ_ s c k h1, oA_ ss r _ h2⟩
theorem kT_ {g : List AV → Int → List AV × Int} {p : List AV → Prop} : ∀ {xs : List (List AV)}, (∀ x ∈ xs, ∀ k, p (g x k).1) → ∀ k : Int, ∀ e ∈ (aI_ g xs k).1, p e
 | [], _, k, e, he => by simp [aI_] at he
 | x :: xs, h, k, e, he => by
  simp only [aI_, mem_cons] at he
  rcases he with q | q
  ·subst q; exact h x (by simp) k
  ·exact kT_ (fun y hy => h y (by simp [hy])) _ e q
end
mutual
theorem kn_ : ∀ (s : Sch) (a : AV) (k : Int), aL_ s a → aK_ s (a0_ mt s a k).1 = aK_ s a
 | .int, a, k, _ => by simp [aK_]
 | .str, a, k, _ => by simp [aK_]
 | .bool, a, k, _ => by simp [aK_]
 | .list fs, a, k, h => by
  unfold aL_ at h
  obtain ⟨es, rfl, h⟩ := h
  simp only [a0_, aK_]
  exact kK_ (fun x hx k => nd_ fs x k (h x hx)) k
theorem nd_ : ∀ (fs : List Sch) (cs : List AV) (k : Int), aB_ fs cs → aU_ fs (a9_ mt fs cs k).1 = aU_ fs cs
 | [], cs, k, h => by simp [aU_]
 | s :: ss, cs, k, h => by
  unfold aB_ at h
  obtain ⟨c, r, rfl, h1, h2⟩ := h
  simp only [a9_, aU_]
  rw [kn_ s c k h1, nd_ ss r _ h2]
theorem kK_ {g : List AV → Int → List AV × Int} {c : List AV → Nat} : ∀ {xs : List (List AV)}, (∀ x ∈ xs, ∀ k, c (g x k).1 = c x) → ∀ k : Int, aX_ c (aI_ g xs k).1 = aX_ c xs
 | [], _, k => rfl
 | x :: xs, h, k => by
  simp only [aI_, aX_]
  rw [h x (by simp), kK_ (fun y hy => h y (by simp [hy]))]
end
theorem Own.lt {H : List Row} {n : Nat} {a r : AV} {fs : List Nat} (h : Own H n a r fs) : ∀ l ∈ fs, l < H.length := fun l hl => by
 obtain ⟨row, m, es, g, h1, _⟩ := h.inner l hl
 exact (List.getElem?_eq_some_iff.1 h1).1
theorem aw_.len {R : AV → AV → List Nat → Prop} : ∀ {cs ds : List AV} {fs : List Nat}, aw_ R cs ds fs → ds.length = cs.length
 | [], ds, fs, h => by obtain ⟨h, _⟩ := h; subst h; rfl
 | c :: cs, ds, fs, h => by
  obtain ⟨d, ds', f, f', e1, e2, h1, h2⟩ := h
  subst e1
  simp [aw_.len h2]
theorem aw_.split {R : AV → AV → List Nat → Prop} : ∀ {cs ds : List AV} {fs : List Nat} (j : Nat) {r : AV}, aw_ R cs ds fs → ds[j]? = some r → ∃ c f1 f2 f3, cs[j]? = some c ∧ fs = f1 ++ (f2 ++ f3) ∧ R c r f2 ∧
 ∀ (R' : AV → AV → List Nat → Prop) (c' r' : AV), (∀ a r g, (∀ l ∈ g, l ∈ f1 ∨ l ∈ f3) → R a r g → R' a r g) → R' c' r' f2 → aw_ R' (cs.set j c') (ds.set j r') fs
 | [], ds, fs, j, r, h, hj => by obtain ⟨h, _⟩ := h; subst h; simp at hj
 | c :: cs, ds, fs, 0, r, h, hj => by
  obtain ⟨d, ds', f, f', rfl, rfl, h1, h2⟩ := h
  simp only [getElem?_cons_zero, Option.some.injEq] at hj
  subst hj
  refine ⟨c, [], f, f', rfl, rfl, h1, fun R' c' r' hm hr => ?_⟩
  exact ⟨r', ds', f, f', rfl, rfl, hr, aw_.mono (fun a r g hg => hm a r g fun l hl => .inr (hg l hl)) h2⟩
 | c :: cs, ds, fs, j + 1, r, h, hj => by
  obtain ⟨d, ds', f, f', rfl, rfl, h1, h2⟩ := h
  simp only [getElem?_cons_succ] at hj
  obtain ⟨c0, f1, f2, f3, q1, rfl, q3, q4⟩ := aw_.split j h2 hj
  refine ⟨c0, f ++ f1, f2, f3, by simpa using q1, by simp, q3, fun R' c' r' hm hr => ?_⟩
  refine ⟨d, ds'.set j r', f, f1 ++ (f2 ++ f3), rfl, rfl, hm _ _ _ (fun l hl => .inl (by simp [hl])) h1, q4 R' c' r' (fun a r g hg => hm a r g fun l hl => ?_) hr⟩
  rcases hg l hl with q | q
  ·exact .inl (by simp [q])
  ·exact .inr q
theorem aR_.split {R : AV → AV → List Nat → Prop} : ∀ {es rs : List (List AV)} {fs : List Nat} (j : Nat) {d : List AV}, aR_ R es rs fs → rs[j]? = some d → ∃ e f1 f2 f3, es[j]? = some e ∧ fs = f1 ++ (f2 ++ f3) ∧ aw_ R e d f2 ∧
 ∀ (R' : AV → AV → List Nat → Prop) (e' d' : List AV), (∀ a r g, (∀ l ∈ g, l ∈ f1 ∨ l ∈ f3) → R a r g → R' a r g) → aw_ R' e' d' f2 → aR_ R' (es.set j e') (rs.set j d') fs
 | [], rs, fs, j, d, h, hj => by obtain ⟨h, _⟩ := h; subst h; simp at hj
 | e :: es, rs, fs, 0, d, h, hj => by
  obtain ⟨d0, ds', f, f', rfl, rfl, h1, h2⟩ := h
  simp only [getElem?_cons_zero, Option.some.injEq] at hj
  subst hj
  refine ⟨e, [], f, f', rfl, rfl, h1, fun R' c' r' hm hr => ?_⟩
  exact ⟨r', ds', f, f', rfl, rfl, hr, aR_.mono (fun a r g hg => hm a r g fun l hl => .inr (hg l hl)) h2⟩
 | e :: es, rs, fs, j + 1, d, h, hj => by
  obtain ⟨d0, ds', f, f', rfl, rfl, h1, h2⟩ := h
  simp only [getElem?_cons_succ] at hj
  obtain ⟨c0, f1, f2, f3, q1, rfl, q3, q4⟩ := aR_.split j h2 hj
  refine ⟨c0, f ++ f1, f2, f3, by simpa using q1, by simp, q3, fun R' c' r' hm hr => ?_⟩
  refine ⟨d0, ds'.set j r', f, f1 ++ (f2 ++ f3), rfl, rfl, aw_.mono (fun a r g hg => hm a r g fun l hl => .inl (by simp [hg l hl])) h1, q4 R' c' r' (fun a r g hg => hm a r g fun l hl => ?_) hr⟩
  rcases hg l hl with q | q
  ·exact .inl (by simp [q])
  ·exact .inr q
theorem Own.of_val {H : List Row} {m : Nat} {c : AV} {v : Value} {f : List Nat} (h : Own H m c (.val v) f) : f = [] ∧ c = .val v := by
 cases m with
 | zero => exact h.elim
 | succ m =>
  cases c with
  | val u =>
   obtain ⟨h1, h2 | ⟨_, sz, h2⟩⟩ := h
   ·simp only [AV.val.injEq] at h2; subst h2; exact ⟨h1, rfl⟩
   ·cases h2
  | own l k => obtain ⟨row, es, g, _, _, _, h4, _⟩ := h; cases h4
  | sub l k lo hi => obtain ⟨row, es, g, _, _, _, h4, _⟩ := h; cases h4
  | agg cs => obtain ⟨ds, _, h4⟩ := h; cases h4
  | tup cs => obtain ⟨ds, _, h4⟩ := h; cases h4
  | _ => exact h.elim
theorem Own.mk_val (H : List Row) (m : Nat) (v : Value) : Own H (m + 1) (.val v) (.val v) [] := ⟨rfl, .inl rfl⟩
theorem aR_.up {H : List Row} {n m : Nat} (hm : n ≤ m) {es rs : List (List AV)} {fs : List Nat} (h : aR_ (Own H n) es rs fs) : aR_ (Own H m) es rs fs := aR_.mono (fun _ _ _ _ ho => Own.up hm ho) h
theorem aw_.up {H : List Row} {n m : Nat} (hm : n ≤ m) {es rs : List AV} {fs : List Nat} (h : aw_ (Own H n) es rs fs) : aw_ (Own H m) es rs fs := aw_.mono (fun _ _ _ _ ho => Own.up hm ho) h
structure MT (H0 : List Row) (l : Nat) (E : Tag) (sz cnt : Nat) (f : List Nat) (rs : List (List AV)) (H : List Row) : Prop where
 out : ∃ m es, H[l]? = some ⟨E, sz, es⟩ ∧ es.length = cnt ∧ aR_ (Own H (m + 1)) es rs f
 len : H.length = H0.length
 kept : ∀ x, x ∉ l :: f → H[x]? = H0[x]?
theorem t0_ {α : Type} (e : List α) (off : Nat) (a : α) (h : off < e.length) : e.take off ++ [a] ++ e.drop (off + 1) = e.set off a := by
 rw [set_eq_take_append_cons_drop, if_pos h]; simp
theorem MT.put {H0 : List Row} {l : Nat} {E : Tag} {sz cnt : Nat} {f : List Nat} {rs : List (List AV)} {H : List Row} {j off : Nat} {d : List AV} {v : Value} (h : MT H0 l E sz cnt f (rs.set j d) H) (hl : l ∉ f) (hj : j < rs.length) (ho : d[off]? = some (.val v)) :
 ∃ es e, H[l]? = some ⟨E, sz, es⟩ ∧ es.length = cnt ∧ es[j]? = some e ∧ off + 1 ≤ e.length ∧
  ∀ w, MT H0 l E sz cnt f (rs.set j (d.set off (.val w))) (H.set l ⟨E, sz, es.set j (e.take off ++ [.val w] ++ e.drop (off + 1))⟩) := by
 obtain ⟨⟨m, es, h1, h2, h3⟩, h4, h5⟩ := h
 have hd : (rs.set j d)[j]? = some d := by rw [getElem?_set_self hj]
 obtain ⟨e, f1, f2, f3, q1, q2, q3, q4⟩ := h3.split j hd
 obtain ⟨c, g1, g2, g3, p1, p2, p3, p4⟩ := q3.split off ho
 obtain ⟨rfl, rfl⟩ := p3.of_val
 have hlen : off < e.length := (List.getElem?_eq_some_iff.1 p1).1
 have hlt : l < H.length := (List.getElem?_eq_some_iff.1 h1).1
 refine ⟨es, e, h1, h2, q1, hlen, fun w => ⟨⟨m, _, getElem?_set_self hlt, by simpa using h2, ?_⟩, by simpa using h4, fun x hx => ?_⟩⟩
 ·rw [t0_ e off _ hlen]
  have hk : ∀ a r g, (∀ x ∈ g, x ∈ f) → Own H (m + 1) a r g → Own (H.set l ⟨E, sz, es.set j (e.set off (.val w))⟩) (m + 1) a r g := fun a r g hg ho => ho.keep fun x hx => by
   rw [getElem?_set_ne]; rintro rfl; exact hl (hg _ hx)
  have := q4 (Own (H.set l ⟨E, sz, es.set j (e.set off (.val w))⟩) (m + 1)) (e.set off (.val w)) (d.set off (.val w)) (fun a r g hg => hk a r g fun x hx => by
   rw [q2]; rcases hg x hx with q | q <;> simp [q]) (p4 _ _ _ (fun a r g hg => hk a r g fun x hx => by
   rw [q2, p2]; rcases hg x hx with q | q <;> simp [q]) (Own.mk_val _ _ _))
  rw [set_set] at this
  exact this
 ·rw [getElem?_set_ne (by rintro rfl; simp at hx)]
  exact h5 x hx
theorem MT.sub {H0 : List Row} {l : Nat} {E : Tag} {sz cnt : Nat} {f : List Nat} {rs : List (List AV)} {H : List Row} {j off s2 : Nat} {d : List AV} {es2 : List (List AV)} (h : MT H0 l E sz cnt f (rs.set j d) H) (hl : l ∉ f) (nd : f.Nodup) (hj : j < rs.length) (ho : d[off]? = some (.list 0 s2 es2)) :
 ∃ m es e c g, H[l]? = some ⟨E, sz, es⟩ ∧ es.length = cnt ∧ es[j]? = some e ∧ cb_ none (e.drop off) = some c ∧ Own H m c (.list 0 s2 es2) g ∧ g.Nodup ∧
  ∀ H' m' es3, H'.length = H.length → (∀ x, x ∉ g → H'[x]? = H[x]?) → Own H' m' c (.list 0 s2 es3) g → MT H0 l E sz cnt f (rs.set j (d.set off (.list 0 s2 es3))) H' := by
 obtain ⟨⟨m, es, h1, h2, h3⟩, h4, h5⟩ := h
 have hd : (rs.set j d)[j]? = some d := by rw [getElem?_set_self hj]
 obtain ⟨e, f1, f2, f3, q1, q2, q3, q4⟩ := h3.split j hd
 obtain ⟨c, g1, g2, g3, p1, p2, p3, p4⟩ := q3.split off ho
 obtain ⟨hlen, hc⟩ := List.getElem?_eq_some_iff.1 p1
 obtain ⟨hle, he⟩ := List.getElem?_eq_some_iff.1 q1
 subst p2 q2
 simp only [nodup_append, mem_append] at nd
 obtain ⟨n1, ⟨⟨m1, ⟨m2, m3, m4⟩, m5⟩, n3, n4⟩, n5⟩ := nd
 refine ⟨m + 1, es, e, c, g2, h1, h2, q1, by rw [drop_eq_getElem_cons hlen, hc]; rfl, p3, m2, fun H' m' es3 e1 e2 e3 => ?_⟩
 have hlg : l ∉ g2 := fun q => hl (by simp [q])
 have hkeep : ∀ M, m + 1 ≤ M → ∀ a r g, (∀ x ∈ g, x ∉ g2) → Own H (m + 1) a r g → Own H' M a r g := fun M hM a r g hg ho => Own.up hM (ho.keep fun x hx => e2 x (hg x hx))
 refine ⟨⟨m + m', es, by rw [e2 l hlg]; exact h1, h2, ?_⟩, by rw [e1]; exact h4, fun x hx => ?_⟩
 ·have := q4 (Own H' (m + m' + 1)) (e.set off c) (d.set off (.list 0 s2 es3)) (fun a r g hg => hkeep _ (by omega) a r g fun x hx hx2 => by
   rcases hg x hx with q | q
   ·exact n5 x q x (.inl (.inr (.inl hx2))) rfl
   ·exact n4 x (.inr (.inl hx2)) x q rfl) (p4 _ _ _ (fun a r g hg => hkeep _ (by omega) a r g fun x hx hx2 => by
   rcases hg x hx with q | q
   ·exact m5 x q x (.inl hx2) rfl
   ·exact m4 x hx2 x q rfl) (Own.up (by omega) e3))
  rw [set_set] at this
  have e4 : e.set off c = e := by rw [← hc]; exact set_getElem_self hlen
  have e5 : es.set j e = es := by rw [← he]; exact set_getElem_self hle
  rw [e4, e5] at this
  exact this
 ·rw [e2 x (fun q => hx (by simp [q]))]
  exact h5 x hx
theorem nR_ {P : Program} {F l n lo hi : Nat} {as : List AV} {H : List Row} {K : AV → List Row → Prop} {row : Row} (hl : H[l]? = some row) (hn : row.es.length = n) (hc : lo ≤ hi → hi ≤ n → callSem P F (.sub l n lo hi :: as) H K) : callSem P F (.sub l n lo hi :: as) H K := by
 intro S w vals hm hgl hr
 have hr' := hr
 simp only [af_] at hr'
 obtain ⟨v, r, e, h1, h2⟩ := hr'
 simp only [Rep] at h1
 obtain ⟨_, i, q1, q2, q3⟩ := h1
 have q4 := (hm.rows l i row q1 hl).1
 obtain ⟨q5, q6, _⟩ := q3 (by omega)
 exact hc q5 q6 S w vals hm hgl hr
theorem nQ_ {P : Program} {F l n : Nat} {as : List AV} {H : List Row} {K : AV → List Row → Prop} (hc : callSem P F (.sub l n 0 n :: as) H K) : callSem P F (.own l n :: as) H K := by
 intro S w vals hm hgl hr
 refine hc S w vals hm hgl ?_
 simp only [af_] at hr ⊢
 obtain ⟨v, r, e, h1, h2⟩ := hr
 refine ⟨v, r, e, ?_, h2⟩
 simp only [Rep] at h1 ⊢
 obtain ⟨q0, i, q1, q2, q3⟩ := h1
 refine ⟨q0, i, q1, q2, fun q => ⟨Nat.zero_le _, Nat.le_refl _, ?_⟩⟩
 rcases q3 q with q4 | q4
 ·unfold sliceAt at q4
  split at q4
  ·rename_i b hb
   right
   exact ⟨b, 0, hb, by rw [q4, Nat.sub_zero, Nat.sub_zero, q], fun _ => by simp⟩
  ·rename_i hb
   left
   exact ⟨hb, none, q4⟩
 ·exact .inl q4
def gl_ (P : Program) (F : FuncId) (mt : Int → ByteArray) (fs : List Sch) : Prop :=
 ∀ (m : Nat) (a : AV) (es : List (List AV)) (f : List Nat) (H : List Row) (k : Int) (K : AV → List Row → Prop), Own H m a (.list 0 fs.length es) f → f.Nodup → (∀ e ∈ es, aB_ fs e) → 0 ≤ k → k + aX_ (aU_ fs) es ≤ 4611686018427387904 →
  (∀ H' m', H'.length = H.length → (∀ x, x ∉ f → H'[x]? = H[x]?) → Own H' m' a (.list 0 fs.length (aI_ (a9_ mt fs) es k).1) f → K (.val (.int .i64 (aI_ (a9_ mt fs) es k).2)) H') →
  callSem P F [a, .val (.int .i64 k)] H K
theorem gl_.of {P : Program} {F : FuncId} {mt : Int → ByteArray} {fs : List Sch}
 (hnil : ∀ (H : List Row) (k : Int) (K : AV → List Row → Prop), K (.val (.int .i64 k)) H → callSem P F [.val (.slice none 0 0), .val (.int .i64 k)] H K)
 (hsub : ∀ (l cnt lo hi : Nat) (E : Tag) (rs : List (List AV)) (f : List Nat) (H : List Row) (k : Int) (K : AV → List Row → Prop), MT H l E fs.length cnt f rs H → l ∉ f → f.Nodup → rs.length = cnt → lo ≤ hi → hi ≤ cnt → (∀ e ∈ (rs.take hi).drop lo, aB_ fs e) → 0 ≤ k → k + aX_ (aU_ fs) ((rs.take hi).drop lo) ≤ 4611686018427387904 →
   (∀ H' rs', MT H l E fs.length cnt f rs' H' → (rs'.take hi).drop lo = (aI_ (a9_ mt fs) ((rs.take hi).drop lo) k).1 → K (.val (.int .i64 (aI_ (a9_ mt fs) ((rs.take hi).drop lo) k).2)) H') → callSem P F [.sub l cnt lo hi, .val (.int .i64 k)] H K) : gl_ P F mt fs := by
 intro m a es f H k K ho nd hsh hk hb hK
 cases m with
 | zero => exact ho.elim
 | succ m =>
  have part : ∀ (l cnt lo hi : Nat) (row : Row) (es0 : List (List AV)) (f0 : List Nat), H[l]? = some row → row.es.length = cnt → aR_ (Own H m) row.es es0 f0 → row.sz = fs.length → es = (es0.take hi).drop lo → f = l :: f0 →
   (∀ H' m' row' es', H'.length = H.length → (∀ x, x ∉ f → H'[x]? = H[x]?) → H'[l]? = some row' → row'.es.length = cnt → row'.sz = fs.length → aR_ (Own H' m') row'.es es' f0 → (es'.take hi).drop lo = (aI_ (a9_ mt fs) es k).1 → K (.val (.int .i64 (aI_ (a9_ mt fs) es k).2)) H') →
   callSem P F [.sub l cnt lo hi, .val (.int .i64 k)] H K := by
   rintro l cnt lo hi ⟨E, sz, res⟩ es0 f0 h1 h2 h3 h4 rfl rfl hfin
   simp only at h2 h3 h4
   subst h4
   rw [nodup_cons] at nd
   refine nR_ h1 h2 fun hlo hhi => ?_
   refine hsub l cnt lo hi E es0 f0 H k K ⟨⟨m, res, h1, h2, h3.up (by omega)⟩, rfl, fun _ _ => rfl⟩ nd.1 nd.2 (by rw [h3.len, h2]) hlo hhi hsh hk hb ?_
   rintro H' rs' ⟨⟨m', res', g1, g2, g3⟩, g4, g5⟩ e
   exact hfin H' _ ⟨E, fs.length, res'⟩ rs' g4 g5 g1 g2 rfl g3 e
  cases a with
  | val v =>
   obtain ⟨rfl, e | ⟨rfl, sz, e⟩⟩ := ho
   ·cases e
   ·simp only [AV.list.injEq] at e
    obtain ⟨_, rfl, rfl⟩ := e
    refine hnil H k K (hK H 1 rfl (fun _ _ => rfl) ⟨rfl, .inr ⟨rfl, _, rfl⟩⟩)
  | own l cnt =>
   obtain ⟨row, es0, f0, h1, h2, h3, h4, h5⟩ := ho
   simp only [AV.list.injEq, true_and] at h4
   obtain ⟨h4, rfl⟩ := h4
   have hlen : es.length = cnt := by rw [h3.len, h2]
   refine nQ_ (part l cnt 0 cnt row es f0 h1 h2 h3 h4.symm (by rw [drop_zero, take_of_length_le (by omega)]) h5 ?_)
   rintro H' m' row' es' e1 e2 e3 e4 e5 e6 e7
   have hlen' : es'.length = cnt := by rw [e6.len, e4]
   rw [drop_zero, take_of_length_le (by omega)] at e7
   subst e7
   exact hK H' (m' + 1) e1 e2 ⟨row', _, f0, e3, e4, e6, by rw [e5], h5⟩
  | sub l cnt lo hi =>
   obtain ⟨row, es0, f0, h1, h2, h3, h4, h5⟩ := ho
   simp only [AV.list.injEq, true_and] at h4
   obtain ⟨h4, rfl⟩ := h4
   refine part l cnt lo hi row es0 f0 h1 h2 h3 h4.symm rfl h5 ?_
   rintro H' m' row' es' e1 e2 e3 e4 e5 e6 e7
   exact hK H' (m' + 1) e1 e2 ⟨row', es', f0, e3, e4, e6, by rw [e5, e7], h5⟩
  | agg cs => obtain ⟨ds, _, e⟩ := ho; cases e
  | tup cs => obtain ⟨ds, _, e⟩ := ho; cases e
  | _ => exact ho.elim
theorem j3_ {g : List AV → Int → List AV × Int} {seg : List (List AV)} {k : Int} {i : Nat} (h : i < seg.length) : aI_ g (seg.take (i + 1)) k = ((aI_ g (seg.take i) k).1 ++ [(g seg[i] (aI_ g (seg.take i) k).2).1], (g seg[i] (aI_ g (seg.take i) k).2).2) := by
 rw [take_add_one, getElem?_eq_getElem h, Option.toList_some, jw_]
theorem h8_ {c : List AV → Nat} : ∀ {seg : List (List AV)} {i : Nat} (h : i < seg.length), aX_ c (seg.take i) + c seg[i] ≤ aX_ c seg
 | x :: xs, 0, h => by simp [aX_]
 | x :: xs, i + 1, h => by
  have := h8_ (c := c) (seg := xs) (i := i) (by simpa using h)
  simp only [take_succ_cons, aX_, getElem_cons_succ]; omega
theorem ks_ {rs seg : List (List AV)} {A : List (List AV)} {lo hi i : Nat} (h : (rs.take hi).drop lo = A ++ seg.drop i) (hA : A.length = i) (hi' : i < seg.length) : lo + i < rs.length ∧ rs[lo + i]? = some seg[i] ∧ lo + i < hi := by
 have h1 : ((rs.take hi).drop lo)[i]? = some seg[i] := by
  rw [h, getElem?_append_right (by omega), hA, Nat.sub_self, getElem?_drop, Nat.add_zero, getElem?_eq_getElem hi']
 rw [getElem?_drop, getElem?_take] at h1
 split at h1
 ·rename_i q
  exact ⟨(List.getElem?_eq_some_iff.1 h1).1, h1, q⟩
 ·cases h1
theorem jE_ {rs seg : List (List AV)} {A : List (List AV)} {lo hi i : Nat} {d : List AV} (h : (rs.take hi).drop lo = A ++ seg.drop i) (hA : A.length = i) (hi' : i < seg.length) : ((rs.set (lo + i) d).take hi).drop lo = (A ++ [d]) ++ seg.drop (i + 1) := by
 obtain ⟨h1, h2, h3⟩ := ks_ h hA hi'
 rw [take_set, drop_set, if_neg (by omega), h, Nat.add_sub_cancel_left, set_append_right _ _ (by omega), hA, Nat.sub_self, drop_eq_getElem_cons hi', set_cons_zero, append_assoc]
 rfl
theorem aw_.inv_nil {R : AV → AV → List Nat → Prop} {cs : List AV} {f : List Nat} (h : aw_ R cs [] f) : cs = [] ∧ f = [] := by
 cases cs with
 | nil => exact ⟨rfl, h.2⟩
 | cons c cs => obtain ⟨d, ds', g, g', e, _⟩ := h; cases e
theorem aw_.inv_cons {R : AV → AV → List Nat → Prop} {cs ds : List AV} {d : AV} {f : List Nat} (h : aw_ R cs (d :: ds) f) : ∃ c cs' g g', cs = c :: cs' ∧ f = g ++ g' ∧ R c d g ∧ aw_ R cs' ds g' := by
 cases cs with
 | nil => obtain ⟨e, _⟩ := h; cases e
 | cons c cs =>
  obtain ⟨d', ds', g, g', e, e2, h1, h2⟩ := h
  simp only [List.cons.injEq] at e
  obtain ⟨rfl, rfl⟩ := e
  exact ⟨c, cs, g, g', rfl, e2, h1, h2⟩
theorem aw_.inv_val {H : List Row} {m : Nat} {cs ds : List AV} {v : Value} {f : List Nat} (h : aw_ (Own H m) cs (.val v :: ds) f) : ∃ cs', cs = .val v :: cs' ∧ aw_ (Own H m) cs' ds f := by
 obtain ⟨c, cs', g, g', rfl, rfl, h1, h2⟩ := h.inv_cons
 obtain ⟨rfl, rfl⟩ := h1.of_val
 exact ⟨cs', rfl, h2⟩
theorem aw_.mk_nil (R : AV → AV → List Nat → Prop) : aw_ R [] [] [] := ⟨rfl, rfl⟩
theorem aw_.mk_val {H : List Row} {m : Nat} {cs ds : List AV} {f : List Nat} (v : Value) (h : aw_ (Own H (m + 1)) cs ds f) : aw_ (Own H (m + 1)) (.val v :: cs) (.val v :: ds) f := ⟨_, _, [], f, rfl, rfl, Own.mk_val _ _ _, h⟩
theorem aw_.mk_list {H : List Row} {m n : Nat} {c r : AV} {cs ds : List AV} {f g : List Nat} (h1 : Own H m c r g) (h : aw_ (Own H (n + 1)) cs ds f) : aw_ (Own H (m + n + 1)) (c :: cs) (r :: ds) (g ++ f) := ⟨_, _, g, f, rfl, rfl, Own.up (by omega) h1, aw_.up (by omega) h⟩
theorem Own.cell_list {H : List Row} {m : Nat} {c : AV} {tk sz : Nat} {es : List (List AV)} {g : List Nat} (h : Own H m c (.list tk sz es) g) : c.cell = true := by
 cases m with
 | zero => exact h.elim
 | succ m =>
  cases c with
  | val v => obtain ⟨_, e | ⟨rfl, _⟩⟩ := h
             ·cases e
             ·rfl
  | own l k => rfl
  | sub l k lo hi => rfl
  | agg cs => obtain ⟨_, _, e⟩ := h; cases e
  | tup cs => obtain ⟨_, _, e⟩ := h; cases e
  | _ => exact h.elim
theorem MT.elem {H0 : List Row} {l : Nat} {E : Tag} {sz cnt : Nat} {f : List Nat} {rs : List (List AV)} {H : List Row} {j : Nat} {d : List AV} (h : MT H0 l E sz cnt f rs H) (hl : l ∉ f) (nd : f.Nodup) (hd : rs[j]? = some d) :
 ∃ m es e f2, H[l]? = some ⟨E, sz, es⟩ ∧ es.length = cnt ∧ es[j]? = some e ∧ aw_ (Own H (m + 1)) e d f2 ∧ f2.Nodup ∧ l ∉ f2 ∧
  ∀ H' e' d', H'.length = H.length → H'[l]? = some ⟨E, sz, es.set j e'⟩ → (∀ x, x ∉ l :: f2 → H'[x]? = H[x]?) → (∃ m', aw_ (Own H' m') e' d' f2) → MT H0 l E sz cnt f (rs.set j d') H' := by
 obtain ⟨⟨m, es, h1, h2, h3⟩, h4, h5⟩ := h
 obtain ⟨e, f1, f2, f3, q1, q2, q3, q4⟩ := h3.split j hd
 subst q2
 simp only [nodup_append, mem_append] at nd
 obtain ⟨n1, ⟨n2, n3, n4⟩, n5⟩ := nd
 refine ⟨m, es, e, f2, h1, h2, q1, q3, n2, fun q => hl (by simp [q]), fun H' e' d' e1 e2 e3 ⟨m', e4⟩ => ⟨⟨m + m', _, e2, by simpa using h2, ?_⟩, by rw [e1, h4], fun x hx => ?_⟩⟩
 ·refine q4 (Own H' (m + m' + 1)) e' d' (fun a r g hg ho => Own.up (by omega) (ho.keep fun x hx => e3 x ?_)) (aw_.up (by omega) e4)
  rw [mem_cons]
  rintro (rfl | q)
  ·exact hl (by rcases hg _ hx with q | q <;> simp [q])
  ·rcases hg x hx with q' | q'
   ·exact n5 x q' x (.inl q) rfl
   ·exact n4 x q x q' rfl
 ·rw [e3 x (fun q => hx (by rcases mem_cons.1 q with q | q <;> simp [q]))]
  exact h5 x hx
section
variable (mt : Int → ByteArray)
def aY_ : List Sch → List AV → Int → List AV × Int
 | .list fs :: ss, c :: cs, k => ((a0_ mt (.list fs) c k).1 :: (aY_ ss cs (a0_ mt (.list fs) c k).2).1, (aY_ ss cs (a0_ mt (.list fs) c k).2).2)
 | _ :: ss, c :: cs, k => (c :: (aY_ ss cs k).1, (aY_ ss cs k).2)
 | _, cs, k => (cs, k)
def cA_ : List Sch → List AV → Int → Int
 | .list fs :: ss, c :: cs, k => if bx_ mt (.list fs) c k < 0 then -1 else cA_ ss cs (bx_ mt (.list fs) c k)
 | _ :: ss, _ :: cs, k => cA_ ss cs k
 | _, _, k => k
end
def bn_ : List Sch → List AV → Nat
 | .list fs :: ss, c :: cs => aK_ (.list fs) c + bn_ ss cs
 | _ :: ss, _ :: cs => bn_ ss cs
 | _, _ => 0
variable {mt : Int → ByteArray}
theorem e7_ : ∀ (fs : List Sch) (cs : List AV) (k : Int), (aY_ mt fs cs k).2 = k + bn_ fs cs
 | [], cs, k => by simp [aY_, bn_]
 | .list fs :: ss, [], k => by simp [aY_, bn_]
 | .int :: ss, [], k => by simp [aY_, bn_]
 | .str :: ss, [], k => by simp [aY_, bn_]
 | .bool :: ss, [], k => by simp [aY_, bn_]
 | .list fs :: ss, c :: cs, k => by simp only [aY_, bn_]; rw [e7_ ss, gg_]; omega
 | .int :: ss, c :: cs, k => by simp only [aY_, bn_]; exact e7_ ss cs k
 | .str :: ss, c :: cs, k => by simp only [aY_, bn_]; exact e7_ ss cs k
 | .bool :: ss, c :: cs, k => by simp only [aY_, bn_]; exact e7_ ss cs k
theorem gM_ : ∀ (fs : List Sch) (cs : List AV) (k : Int), aB_ fs cs → 0 ≤ k → cA_ mt fs (aY_ mt fs cs k).1 k = (aY_ mt fs cs k).2
 | [], cs, k, _, hk => by simp [aY_, cA_]
 | .list fs :: ss, cs, k, h, hk => by
  unfold aB_ at h
  obtain ⟨c, r, rfl, h1, h2⟩ := h
  simp only [aY_, cA_]
  rw [lM_ _ c k h1 hk, gg_, if_neg (by omega)]
  exact gM_ ss r _ h2 (by omega)
 | .int :: ss, cs, k, h, hk => by
  unfold aB_ at h
  obtain ⟨c, r, rfl, h1, h2⟩ := h
  simp only [aY_, cA_]
  exact gM_ ss r _ h2 hk
 | .str :: ss, cs, k, h, hk => by
  unfold aB_ at h
  obtain ⟨c, r, rfl, h1, h2⟩ := h
  simp only [aY_, cA_]
  exact gM_ ss r _ h2 hk
 | .bool :: ss, cs, k, h, hk => by
  unfold aB_ at h
  obtain ⟨c, r, rfl, h1, h2⟩ := h
  simp only [aY_, cA_]
  exact gM_ ss r _ h2 hk
theorem gK_ : ∀ (fs : List Sch) (cs : List AV) (k : Int), aB_ fs cs → aB_ fs (aY_ mt fs cs k).1
 | [], cs, k, h => by unfold aB_ at h; simp [aY_, aB_, h]
 | .list fs :: ss, cs, k, h => by
  unfold aB_ at h
  obtain ⟨c, r, rfl, h1, h2⟩ := h
  simp only [aY_]
  unfold aB_
  exact ⟨_, _, rfl, lQ_ _ c k h1, gK_ ss r _ h2⟩
 | .int :: ss, cs, k, h => by
  unfold aB_ at h
  obtain ⟨c, r, rfl, h1, h2⟩ := h
  simp only [aY_]
  unfold aB_
  exact ⟨_, _, rfl, h1, gK_ ss r _ h2⟩
 | .str :: ss, cs, k, h => by
  unfold aB_ at h
  obtain ⟨c, r, rfl, h1, h2⟩ := h
  simp only [aY_]
  unfold aB_
  exact ⟨_, _, rfl, h1, gK_ ss r _ h2⟩
 | .bool :: ss, cs, k, h => by
  unfold aB_ at h
  obtain ⟨c, r, rfl, h1, h2⟩ := h
  simp only [aY_]
  unfold aB_
  exact ⟨_, _, rfl, h1, gK_ ss r _ h2⟩
def pR_ (P : Program) (F : FuncId) (mt : Int → ByteArray) (fs : List Sch) : Prop :=
 ∀ (m : Nat) (cs ds : List AV) (f : List Nat) (H : List Row) (k : Int) (K : AV → List Row → Prop), aw_ (Own H m) cs ds f → f.Nodup → aB_ fs ds → 0 ≤ k → k + bn_ fs ds ≤ 4611686018427387904 →
  (∀ H', H.length ≤ H'.length → (∀ x, x < H.length → x ∉ f → H'[x]? = H[x]?) → (∃ m', aw_ (Own H' m') cs (aY_ mt fs ds k).1 f) → K (.val (.int .i64 (aY_ mt fs ds k).2)) H') →
  callSem P F [.agg cs, .val (.int .i64 k)] H K
theorem ns_ {ss : List Sch} {cs : List AV} {n k : Int} (h : n = k) (hk : 0 ≤ k) : b8_ mt (.int :: ss) (.val (.int .i64 n) :: cs) k = b8_ mt ss cs (k + 1) := by
 have e : bx_ mt .int (.val (.int .i64 n)) k = k + 1 := by simp only [bx_]; rw [if_pos h]
 simp only [b8_]; rw [e, if_neg (by omega)]
theorem pZ_ {ss : List Sch} {cs : List AV} {n k : Int} (h : ¬ n = k) : b8_ mt (.int :: ss) (.val (.int .i64 n) :: cs) k = -1 := by
 have e : bx_ mt .int (.val (.int .i64 n)) k = -1 := by simp only [bx_]; rw [if_neg h]
 simp only [b8_]; rw [e, if_pos (by omega)]
theorem mZ_ {ss : List Sch} {cs : List AV} {s : ByteArray} {k : Int} (h : s = mt k) (hk : 0 ≤ k) : b8_ mt (.str :: ss) (.val (.string s) :: cs) k = b8_ mt ss cs (k + 1) := by
 have e : bx_ mt .str (.val (.string s)) k = k + 1 := by simp only [bx_]; rw [if_pos h]
 simp only [b8_]; rw [e, if_neg (by omega)]
theorem lP_ {ss : List Sch} {cs : List AV} {s : ByteArray} {k : Int} (h : ¬ s = mt k) : b8_ mt (.str :: ss) (.val (.string s) :: cs) k = -1 := by
 have e : bx_ mt .str (.val (.string s)) k = -1 := by simp only [bx_]; rw [if_neg h]
 simp only [b8_]; rw [e, if_pos (by omega)]
theorem mG_ {cs : List AV} {k : Int} : b8_ mt [] cs k = k := by simp [b8_]
theorem g5_ {g : List AV → Int → Int} {e : List AV} {es : List (List AV)} {k : Int} (h : g e k = -1) : b9_ g (e :: es) k = -1 := by
 simp only [b9_]; rw [if_pos (by omega)]
theorem iR_ {g : List AV → Int → Int} {e : List AV} {es : List (List AV)} {k z : Int} (h : g e k = z) (hz : 0 ≤ z) : b9_ g (e :: es) k = b9_ g es z := by
 simp only [b9_]; rw [h, if_neg (by omega)]
theorem m5_ {g : List AV → Int → Int} {es : List (List AV)} {k : Int} {i : Nat} (h : i < es.length) : b9_ g (es.drop i) k = b9_ g (es[i] :: es.drop (i + 1)) k := by rw [drop_eq_getElem_cons h]
theorem qn_ {c : List AV → Nat} {es : List (List AV)} {i : Nat} (h : i < es.length) : aX_ c (es.drop i) = c es[i] + aX_ c (es.drop (i + 1)) := by rw [drop_eq_getElem_cons h]; rfl
theorem jD_ {g : List AV → Int → Int} {c : List AV → Nat} {es : List (List AV)} (hg : ∀ e ∈ es, ∀ k, 0 ≤ k → g e k = -1 ∨ g e k = k + c e) (k : Int) (hk : 0 ≤ k) : b9_ g es k = -1 ∨ b9_ g es k = k + aX_ c es := by
 induction es generalizing k with
 | nil => right; simp [b9_, aX_]
 | cons e es ih =>
  rcases hg e (by simp) k hk with q | q
  ·left; exact g5_ q
  ·rw [iR_ q (by omega)]
   rcases ih (fun x hx => hg x (by simp [hx])) (k + c e) (by omega) with p | p
   ·exact .inl p
   ·right; rw [p, aX_]; omega
mutual
theorem qb_ : ∀ (s : Sch) (a : AV) (k : Int), aL_ s a → 0 ≤ k → bx_ mt s a k = -1 ∨ bx_ mt s a k = k + aK_ s a
 | .int, a, k, h, hk => by
  unfold aL_ at h; obtain ⟨n, rfl⟩ := h
  simp only [bx_, aK_]; split <;> simp
 | .str, a, k, h, hk => by
  unfold aL_ at h; obtain ⟨n, rfl⟩ := h
  simp only [bx_, aK_]; split <;> simp
 | .bool, a, k, h, hk => by
  unfold aL_ at h; obtain ⟨n, rfl⟩ := h
  simp only [bx_, aK_]; split <;> simp
 | .list fs, a, k, h, hk => by
  unfold aL_ at h
  obtain ⟨es, rfl, h⟩ := h
  simp only [bx_, aK_]
  exact jD_ (fun e he k hk => jd_ fs e k (h e he) hk) k hk
theorem jd_ : ∀ (fs : List Sch) (cs : List AV) (k : Int), aB_ fs cs → 0 ≤ k → b8_ mt fs cs k = -1 ∨ b8_ mt fs cs k = k + aU_ fs cs
 | [], cs, k, _, hk => by simp [b8_, aU_]
 | s :: ss, cs, k, h, hk => by
  unfold aB_ at h
  obtain ⟨c, r, rfl, h1, h2⟩ := h
  simp only [b8_, aU_]
  rcases qb_ s c k h1 hk with q | q
  ·left; rw [q, if_pos (by omega)]
  ·rw [q, if_neg (by omega)]
   rcases jd_ ss r (k + aK_ s c) h2 (by omega) with p | p
   ·exact .inl p
   ·right; rw [p]; omega
end
theorem gx_ {c : List AV → Nat} : ∀ {es : List (List AV)}, (∀ e ∈ es, 1 ≤ c e) → es.length ≤ aX_ c es
 | [], _ => by simp
 | e :: es, h => by
  have := gx_ (c := c) (es := es) (fun x hx => h x (by simp [hx]))
  have := h e (by simp)
  simp only [aX_, List.length_cons]; omega
structure aN_ (lo hi : Nat) (H : List Row) (a r : AV) : Prop where
 out : ∃ n fs, Own H n a r fs ∧ fs.Nodup ∧ ∀ l ∈ fs, lo ≤ l ∧ l < hi
structure at_ (lo hi : Nat) (H : List Row) (as rs : List AV) : Prop where
 out : ∃ n fs, aw_ (Own H n) as rs fs ∧ fs.Nodup ∧ ∀ l ∈ fs, lo ≤ l ∧ l < hi
structure bp_ (lo hi : Nat) (H : List Row) (es rs : List (List AV)) : Prop where
 out : ∃ n fs, aR_ (Own H n) es rs fs ∧ fs.Nodup ∧ ∀ l ∈ fs, lo ≤ l ∧ l < hi
section
variable {lo hi mid : Nat} {H H' : List Row} {a r : AV} {as rs as' rs' : List AV} {es ds : List (List AV)}
theorem dp_.b (h : dp_ lo H a r) : aN_ lo H.length H a r := by
 obtain ⟨n, fs, h1, h2, h3⟩ := h
 exact ⟨n, fs, h1, h2, fun l hl => ⟨h3 l hl, h1.lt l hl⟩⟩
theorem aN_.fresh (h : aN_ lo hi H a r) : dp_ lo H a r := by
 obtain ⟨n, fs, h1, h2, h3⟩ := h
 exact ⟨n, fs, h1, h2, fun l hl => (h3 l hl).1⟩
theorem aN_.keep (hk : ∀ l, lo ≤ l → l < hi → H'[l]? = H[l]?) (h : aN_ lo hi H a r) : aN_ lo hi H' a r := by
 obtain ⟨n, fs, h1, h2, h3⟩ := h
 exact ⟨n, fs, h1.keep fun l hl => hk l (h3 l hl).1 (h3 l hl).2, h2, h3⟩
theorem at_.keep (hk : ∀ l, lo ≤ l → l < hi → H'[l]? = H[l]?) (h : at_ lo hi H as rs) : at_ lo hi H' as rs := by
 obtain ⟨n, fs, h1, h2, h3⟩ := h
 exact ⟨n, fs, aw_.mono (fun a r g hg ho => ho.keep fun l hl => hk l (h3 l (hg l hl)).1 (h3 l (hg l hl)).2) h1, h2, h3⟩
theorem bp_.keep (hk : ∀ l, lo ≤ l → l < hi → H'[l]? = H[l]?) (h : bp_ lo hi H es ds) : bp_ lo hi H' es ds := by
 obtain ⟨n, fs, h1, h2, h3⟩ := h
 exact ⟨n, fs, aR_.mono (fun a r g hg ho => ho.keep fun l hl => hk l (h3 l (hg l hl)).1 (h3 l (hg l hl)).2) h1, h2, h3⟩
theorem aN_.widen {lo' hi' : Nat} (h1 : lo' ≤ lo) (h2 : hi ≤ hi') (h : aN_ lo hi H a r) : aN_ lo' hi' H a r := by
 obtain ⟨n, fs, q1, q2, q3⟩ := h
 exact ⟨n, fs, q1, q2, fun l hl => by have := q3 l hl; omega⟩
theorem at_.widen {lo' hi' : Nat} (h1 : lo' ≤ lo) (h2 : hi ≤ hi') (h : at_ lo hi H as rs) : at_ lo' hi' H as rs := by
 obtain ⟨n, fs, q1, q2, q3⟩ := h
 exact ⟨n, fs, q1, q2, fun l hl => by have := q3 l hl; omega⟩
theorem bp_.widen {lo' hi' : Nat} (h1 : lo' ≤ lo) (h2 : hi ≤ hi') (h : bp_ lo hi H es ds) : bp_ lo' hi' H es ds := by
 obtain ⟨n, fs, q1, q2, q3⟩ := h
 exact ⟨n, fs, q1, q2, fun l hl => by have := q3 l hl; omega⟩
theorem aN_.mknil (lo hi : Nat) (H : List Row) (sz : Nat) : aN_ lo hi H (.val (.slice none 0 0)) (.list 0 sz []) := ⟨1, [], ⟨rfl, .inr ⟨rfl, _, rfl⟩⟩, nodup_nil, by simp⟩
theorem at_.nil (lo hi : Nat) (H : List Row) : at_ lo hi H [] [] := ⟨0, [], ⟨rfl, rfl⟩, nodup_nil, by simp⟩
theorem bp_.nil (lo hi : Nat) (H : List Row) : bp_ lo hi H [] [] := ⟨0, [], ⟨rfl, rfl⟩, nodup_nil, by simp⟩
theorem at_.cons (h1 : aN_ lo mid H a r) (h2 : at_ mid hi H as rs) (hm : lo ≤ mid ∧ mid ≤ hi) : at_ lo hi H (a :: as) (r :: rs) := by
 obtain ⟨n, fs, p1, p2, p3⟩ := h1
 obtain ⟨m, gs, q1, q2, q3⟩ := h2
 refine ⟨n + m, fs ++ gs, ⟨r, rs, fs, gs, rfl, rfl, Own.up (by omega) p1, aw_.up (by omega) q1⟩, ?_, fun l hl => ?_⟩
 ·rw [nodup_append]
  exact ⟨p2, q2, fun x hx y hy => by have := p3 x hx; have := q3 y hy; omega⟩
 ·rcases mem_append.1 hl with q | q
  ·have := p3 l q; omega
  ·have := q3 l q; omega
theorem at_.val (v : Value) (h2 : at_ lo hi H as rs) : at_ lo hi H (.val v :: as) (.val v :: rs) := by
 obtain ⟨m, gs, q1, q2, q3⟩ := h2
 exact ⟨m + 1, gs, ⟨.val v, rs, [], gs, rfl, rfl, Own.mk_val _ _ _, aw_.up (by omega) q1⟩, q2, q3⟩
theorem bp_.snoc (h1 : bp_ lo mid H es ds) (h2 : at_ mid hi H as rs) (hm : lo ≤ mid ∧ mid ≤ hi) : bp_ lo hi H (es ++ [as]) (ds ++ [rs]) := by
 obtain ⟨n, fs, p1, p2, p3⟩ := h1
 obtain ⟨m, gs, q1, q2, q3⟩ := h2
 refine ⟨n + m, fs ++ gs, ?_, ?_, fun l hl => ?_⟩
 ·have p1' := aR_.up (Nat.le_add_right n m) p1
  have q1' := aw_.up (Nat.le_add_left m n) q1
  clear p1 q1 p2 p3 q2 q3
  induction es generalizing ds fs with
  | nil =>
   obtain ⟨rfl, rfl⟩ := p1'
   exact ⟨rs, [], gs, [], rfl, by simp, q1', rfl, rfl⟩
  | cons e es ih =>
   obtain ⟨d, ds', f, f', rfl, rfl, g1, g2⟩ := p1'
   exact ⟨d, ds' ++ [rs], f, f' ++ gs, rfl, by simp, g1, ih _ g2⟩
 ·rw [nodup_append]
  exact ⟨p2, q2, fun x hx y hy => by have := p3 x hx; have := q3 y hy; omega⟩
 ·rcases mem_append.1 hl with q | q
  ·have := p3 l q; omega
  ·have := q3 l q; omega
theorem aN_.agg (h : at_ lo hi H as rs) : aN_ lo hi H (.agg as) (.agg rs) := by
 obtain ⟨n, fs, p1, p2, p3⟩ := h
 exact ⟨n + 1, fs, ⟨rs, p1, rfl⟩, p2, p3⟩
theorem aN_.tup (h : at_ lo hi H as rs) : aN_ lo hi H (.tup as) (.tup rs) := by
 obtain ⟨n, fs, p1, p2, p3⟩ := h
 exact ⟨n + 1, fs, ⟨rs, p1, rfl⟩, p2, p3⟩
theorem aN_.unagg (h : aN_ lo hi H (.agg as) (.agg rs)) : at_ lo hi H as rs := by
 obtain ⟨n, fs, p1, p2, p3⟩ := h
 cases n with
 | zero => exact p1.elim
 | succ n =>
  obtain ⟨ds, q1, q2⟩ := p1
  cases q2
  exact ⟨n, fs, q1, p2, p3⟩
theorem aN_.untup (h : aN_ lo hi H (.tup as) (.tup rs)) : at_ lo hi H as rs := by
 obtain ⟨n, fs, p1, p2, p3⟩ := h
 cases n with
 | zero => exact p1.elim
 | succ n =>
  obtain ⟨ds, q1, q2⟩ := p1
  cases q2
  exact ⟨n, fs, q1, p2, p3⟩
theorem aN_.mkown {lo' l k : Nat} {E : Tag} {sz : Nat} (h : bp_ lo hi H es ds) (hl : H[l]? = some ⟨E, sz, es⟩) (hk : es.length = k) (h1 : lo' ≤ l) (h2 : l < lo) (h3 : lo ≤ hi) : aN_ lo' hi H (.own l k) (.list 0 sz ds) := by
 obtain ⟨n, fs, p1, p2, p3⟩ := h
 refine ⟨n + 1, l :: fs, ⟨⟨E, sz, es⟩, ds, fs, hl, hk, p1, rfl, rfl⟩, ?_, fun x hx => ?_⟩
 ·rw [nodup_cons]
  exact ⟨fun q => by have := p3 l q; omega, p2⟩
 ·rcases mem_cons.1 hx with q | q
  ·subst q; omega
  ·have := p3 x q; omega
theorem bp_.ofVals (lo hi : Nat) (H : List Row) : ∀ (es : List (List AV)), (∀ e ∈ es, ∀ c ∈ e, ∃ v, c = .val v) → bp_ lo hi H es es
 | [], _ => .nil lo hi H
 | e :: es, h => by
  obtain ⟨n, fs, p1, p2, p3⟩ := bp_.ofVals lo hi H es (fun x hx => h x (by simp [hx]))
  have he : ∀ (cs : List AV), (∀ c ∈ cs, ∃ v, c = .val v) → aw_ (Own H (n + 1)) cs cs [] := by
   intro cs
   induction cs with
   | nil => intro _; exact ⟨rfl, rfl⟩
   | cons c cs ih =>
    intro hc
    obtain ⟨v, rfl⟩ := hc c (by simp)
    exact ⟨_, _, [], [], rfl, rfl, Own.mk_val _ _ _, ih fun x hx => hc x (by simp [hx])⟩
  exact ⟨n + 1, fs, ⟨e, es, [], fs, rfl, rfl, he e (h e (by simp)), aR_.up (by omega) p1⟩, p2, p3⟩
theorem aN_.arg (h : aN_ lo hi H a r) : b5_ H a r := by
 obtain ⟨n, fs, h1, _⟩ := h
 exact .inr ⟨n, fs, h1⟩
theorem aQ_.two {b q : AV} (h1 : b5_ H a r) (h2 : b5_ H b q) : aQ_ H [a, b] [r, q] := ⟨_, _, rfl, h1, _, _, rfl, h2, rfl⟩
theorem aQ_.one (h1 : b5_ H a r) : aQ_ H [a] [r] := ⟨_, _, rfl, h1, rfl⟩
theorem b5_.same (hp : a.plain = true) : b5_ H a a := .inl ⟨rfl, hp⟩
theorem aQ_.cons (h1 : b5_ H a r) (h2 : aQ_ H as rs) : aQ_ H (a :: as) (r :: rs) := ⟨_, _, rfl, h1, h2⟩
theorem aQ_.nil : aQ_ H [] [] := rfl
end
theorem pu_ {P : Program} {f : FuncId} {args : List AV} {R : AV → Prop} (D : AV → List Row → AV → Prop) (hD : ∀ (S : Sit) (h : List Row) (w : World) (a r : AV) (x : Value), ae_ S h w → Rep S a x → D a h r → Rep (S.shut w) r x) (hp : args.all AV.plain = true) (hw : callSem P f args [] fun av h' => ∃ r, D av h' r ∧ R r) (h : List Row) (K : AV → List Row → Prop) (hk : ∀ r, R r → K r h) : callSem P f args h K := by
 intro S w vals hm hgl hr
 have hm0 : ae_ S.still [] w := ⟨hm.imm, rfl, by simp [Sit.still], by simp [Sit.still]⟩
 refine (hw S.still w vals hm0 hgl (fh_ hp hr)).mono ?_
 rintro e w' ⟨v, av, S1, h1, rfl, st, hm1, rv, r, hres, hR⟩
 have rr := hD S1 h1 w' av r v hm1 rv hres
 have hnone : ∀ b, ¬ S.still.owns b := by
  rintro b ⟨l, i, q, _⟩
  simp [Sit.still] at q
 have hblk : ∀ b, b < w.heap.size → w'.heap[b]? = w.heap[b]? := fun b hb => st.block b hb (hnone b)
 have hown1 : ∀ b, S1.owns b → w.heap.size ≤ b := fun b hb => by
  rcases st.ownNew b hb with q | q
  ·exact absurd q (hnone b)
  ·exact q
 have himm1 : ∀ b c, S1.imm b = some c → S.imm b = some c ∨ w.heap.size ≤ b := fun b c hb => by
  rcases st.immNew b c hb with q | q | q
  ·exact .inl q
  ·exact absurd q (hnone b)
  ·exact .inr q
 have hshut : ∀ b c, (S1.shut w').imm b = some c → S.imm b = some c ∨ w.heap.size ≤ b := by
  intro b c hb
  simp only [Sit.shut] at hb
  split at hb
  ·rename_i hq
   exact .inr (hown1 b (df_.1 hq))
  ·exact himm1 b c hb
 have hle : S.le { imm := (S1.shut w').imm, rows := S.rows } := by
  refine ⟨fun b c e => ?_, fun l i e => ⟨i, e, Nat.le_refl _, fun _ => rfl⟩⟩
  exact (gv_ hm1).imm b c (st.le.imm b c e)
 refine ⟨v, r, { imm := (S1.shut w').imm, rows := S.rows }, h, rfl, ⟨hle, st.os, st.tape, st.output, st.size, fun b hb _ => hblk b hb, fun b q => .inl q, fun b c q => ?_⟩, ⟨fun b c q => ?_, hm.len, fun l i rw q1 q2 => ?_, hm.one⟩, ?_, hk r hR⟩
 ·rcases hshut b c q with q | q
  ·exact .inl q
  ·exact .inr (.inr q)
 ·simp only [Sit.shut] at q
  split at q
  ·split at q
   ·rename_i c' E fr hb
    simp at q; subst q
    exact ⟨E, fr, hb⟩
   ·simp at q
  ·exact hm1.imm b c q
 ·obtain ⟨k1, k2, k3, k4⟩ := hm.rows l i rw q1 q2
  refine ⟨k1, k2, k3, ?_⟩
  cases hb : i.blk with
  | none => rw [hb] at k4; exact k4
  | some b =>
   rw [hb] at k4
   have j1 := k4.1
   have hlt := hm.ownLt ⟨l, i, q1, hb⟩
   refine ⟨?_, k4.2.le hle (hblk b hlt)⟩
   cases q : (S1.shut w').imm b with
   | none => rfl
   | some d =>
    rcases hshut b d q with q' | q'
    ·rw [j1] at q'; cases q'
    ·omega
 ·have hl2 : (S1.shut w').le { imm := (S1.shut w').imm, rows := S.rows } := ⟨fun _ _ e => e, by simp [Sit.shut]⟩
  exact Rep.up hl2 _ _ rr
theorem bA_.pure {P : Program} {f : FuncId} {args : List AV} {r : AV} {Q : AV → Prop} (hc : bA_ P f args r Q) (hp : args.all AV.plain = true) (h : List Row) : aa_ P f args h r := by
 intro K hk
 refine pu_ (R := fun x => x = r) (fun a h r => ∃ n fs, Own h n a r fs) (fun S h w a r x hm rx ⟨n, fs, ho⟩ => Own.rep hm n a x r fs rx ho) hp ?_ h K (by rintro _ rfl; exact hk)
 refine hc [] _ (fun av hn hf hq => ?_)
 obtain ⟨n, fs, h1, _⟩ := hf
 exact ⟨r, ⟨n, fs, h1⟩, rfl⟩
theorem aa_.own {P : Program} {f : FuncId} {as rs : List AV} {H : List Row} {v : Value} (hc : ∀ h, aa_ P f rs h (.val v)) (ha : aQ_ H as rs) : aa_ P f as H (.val v) := fun _ hk => mI_ hc ha hk
theorem at_.app {lo mid hi : Nat} {H : List Row} {as rs as' rs' : List AV} (h1 : at_ lo mid H as rs) (h2 : at_ mid hi H as' rs') (hm : lo ≤ mid ∧ mid ≤ hi) : at_ lo hi H (as ++ as') (rs ++ rs') := by
 obtain ⟨n, fs, p1, p2, p3⟩ := h1
 obtain ⟨m, gs, q1, q2, q3⟩ := h2
 refine ⟨n + m, fs ++ gs, ?_, ?_, fun l hl => ?_⟩
 ·have p1' := aw_.up (Nat.le_add_right n m) p1
  have q1' := aw_.up (Nat.le_add_left m n) q1
  clear p1 q1 p2 p3 q2 q3
  induction as generalizing rs fs with
  | nil =>
   obtain ⟨rfl, rfl⟩ := p1'
   exact q1'
  | cons e es ih =>
   obtain ⟨d, ds', f, f', rfl, rfl, g1, g2⟩ := p1'
   exact ⟨d, ds' ++ rs', f, f' ++ gs, rfl, by simp, g1, ih _ g2⟩
 ·rw [nodup_append]
  exact ⟨p2, q2, fun x hx y hy => by have := p3 x hx; have := q3 y hy; omega⟩
 ·rcases mem_append.1 hl with q | q
  ·have := p3 l q; omega
  ·have := q3 l q; omega
theorem j4_ {h a b m t : List Row} {l : Nat} (hab : a.length = b.length) (h1 : h.length + b.length ≤ l) (h2 : l < (h ++ (b ++ m)).length) : (h ++ (a ++ (m ++ t)))[l]? = (h ++ (b ++ m))[l]? := by
 simp only [List.length_append] at h2
 have e1 : (h ++ (a ++ (m ++ t)))[l]? = m[l - h.length - a.length]? := by
  rw [getElem?_append_right (by omega), getElem?_append_right (by omega), getElem?_append_left (by omega)]
 have e2 : (h ++ (b ++ m))[l]? = m[l - h.length - b.length]? := by
  rw [getElem?_append_right (by omega), getElem?_append_right (by omega)]
 rw [e1, e2, hab]
theorem jz_ {h0 rest hn : List Row} {r r' : Row} {done ds : List (List AV)} {cs rs : List AV} (h1 : bp_ (h0.length + 1) (h0 ++ r :: rest).length (h0 ++ r :: rest) done ds) (h2 : dp_ (h0 ++ r :: rest).length ((h0 ++ r :: rest) ++ hn) (.agg cs) (.agg rs)) :
 bp_ (h0.length + 1) (h0 ++ r' :: (rest ++ hn)).length (h0 ++ r' :: (rest ++ hn)) (done ++ [cs]) (ds ++ [rs]) := by
 have e : (h0 ++ r :: rest) ++ hn = h0 ++ ([r] ++ (rest ++ hn)) := by simp
 have e' : h0 ++ r' :: (rest ++ hn) = h0 ++ ([r'] ++ (rest ++ hn)) := rfl
 refine bp_.snoc (mid := (h0 ++ r :: rest).length) (h1.keep fun l q1 q2 => ?_) (((h2.b.unagg).keep fun l q1 q2 => ?_).widen (Nat.le_refl _) (by simp)) (by first | (simp; done) | (simp; omega))
 ·exact j4_ (a := [r']) (b := [r]) (m := rest) (t := hn) rfl q1 q2
 ·rw [e] at q2 ⊢
  rw [e']
  have := j4_ (h := h0) (a := [r']) (b := [r]) (m := rest ++ hn) (t := []) rfl (l := l) (by simp at q1 ⊢; omega) q2
  rwa [append_nil] at this
theorem kb_ {h0 rest : List Row} {E : Tag} {sz n : Nat} {done ds : List (List AV)} (h1 : bp_ (h0.length + 1) (h0 ++ ⟨E, sz, done⟩ :: rest).length (h0 ++ ⟨E, sz, done⟩ :: rest) done ds) (hn : done.length = n) : dp_ h0.length (h0 ++ ⟨E, sz, done⟩ :: rest) (.own h0.length n) (.list 0 sz ds) :=
 (aN_.mkown h1 (by rw [es_]; rfl) hn (Nat.le_refl _) (Nat.lt_succ_self _) (by simp)).fresh
theorem hh_ {base : Nat} {H : List Row} {as rs : List AV} (h : at_ base H.length H as rs) : dp_ base H (.agg as) (.agg rs) := (aN_.agg h).fresh
theorem oV_ {h0 m hn t M : List Row} {x1 x2 x3 y1 y2 y3 : Row} {l : Nat} (hM : M = m ++ (hn ++ t)) (h1 : (h0 ++ y1 :: y2 :: y3 :: m).length ≤ l) (h2 : l < ((h0 ++ y1 :: y2 :: y3 :: m) ++ hn).length) : (h0 ++ x1 :: x2 :: x3 :: M)[l]? = ((h0 ++ y1 :: y2 :: y3 :: m) ++ hn)[l]? := by
 subst hM
 have e : (h0 ++ y1 :: y2 :: y3 :: m) ++ hn = h0 ++ ([y1, y2, y3] ++ (m ++ hn)) := by simp
 rw [e] at h2 ⊢
 have := j4_ (h := h0) (a := [x1, x2, x3]) (b := [y1, y2, y3]) (m := m ++ hn) (t := t) rfl (l := l) (by simp at h1 ⊢; omega) h2
 rw [append_assoc] at this
 exact this
structure FB (lo hi : Nat) (H : List Row) (a r : AV) : Prop where
 tree : aN_ lo hi H a r
 le : hi ≤ H.length
structure bk_ (H H' : List Row) : Prop where
 len : H.length ≤ H'.length
 kept : ∀ l, l < H.length → H'[l]? = H[l]?
structure But (fs : List Nat) (H H' : List Row) : Prop where
 len : H.length ≤ H'.length
 kept : ∀ l, l < H.length → l ∉ fs → H'[l]? = H[l]?
section
variable {lo hi : Nat} {H H' : List Row} {a r : AV} {fs : List Nat}
theorem bk_.at {i : Nat} {row : Row} (m : bk_ H H') (o : H[i]? = some row) : H'[i]? = some row := (m.kept i (List.getElem?_eq_some_iff.1 o).1).trans o
theorem bk_.fb (m : bk_ H H') (f : FB lo hi H a r) : FB lo hi H' a r := ⟨f.tree.keep fun l _ h2 => m.kept l (by have := f.le; omega), Nat.le_trans f.le m.len⟩
theorem bk_.row (H : List Row) (row : Row) : bk_ H (H ++ [row]) := ⟨by simp, fun l hl => getElem?_append_left hl⟩
theorem bk_.trans {H'' : List Row} (h : bk_ H H') (k : bk_ H' H'') : bk_ H H'' := ⟨Nat.le_trans h.len k.len, fun l hl => (k.kept l (Nat.lt_of_lt_of_le hl h.len)).trans (h.kept l hl)⟩
theorem But.at {i : Nat} {row : Row} (m : But fs H H') (o : H[i]? = some row) (h : i ∉ fs) : H'[i]? = some row := (m.kept i (List.getElem?_eq_some_iff.1 o).1 h).trans o
theorem But.fb (m : But fs H H') (f : FB lo hi H a r) (h : ∀ l, lo ≤ l → l < hi → l ∉ fs) : FB lo hi H' a r := ⟨f.tree.keep fun l h1 h2 => m.kept l (by have := f.le; omega) (h l h1 h2), Nat.le_trans f.le m.len⟩
end
theorem ow_ (H : List Row) (r : Row) : (H ++ [r])[H.length]? = some r := by rw [es_]; rfl
theorem pB_ {P : Program} {f : FuncId} {as rs : List AV} {H : List Row} {r : AV} {Q : AV → Prop} (hc : bA_ P f rs r Q) (ha : aQ_ H as rs) {K : AV → List Row → Prop} (hk : ∀ av H', bk_ H H' → FB H.length H'.length H' av r → Q av → K av H') : callSem P f as H K :=
 qh_ hc ha fun av hn hf hq => hk av (H ++ hn) ⟨by simp, fun l hl => getElem?_append_left hl⟩ ⟨hf.b, Nat.le_refl _⟩ hq
theorem jt_ {P : Program} {f : FuncId} {as : List AV} {H : List Row} {r : AV} {Q : AV → Prop} (hc : bA_ P f as r Q) {K : AV → List Row → Prop} (hk : ∀ av H', bk_ H H' → FB H.length H'.length H' av r → Q av → K av H') : callSem P f as H K :=
 hc H K fun av hn hf hq => hk av (H ++ hn) ⟨by simp, fun l hl => getElem?_append_left hl⟩ ⟨hf.b, Nat.le_refl _⟩ hq
theorem p7_ {P : Program} {F : FuncId} {mt : Int → ByteArray} {fs : List Sch} (hc : gl_ P F mt fs) {lo hi : Nat} {H : List Row} {a : AV} {es : List (List AV)} {k : Int} {K : AV → List Row → Prop} (ha : FB lo hi H a (.list 0 fs.length es)) (hsh : ∀ e ∈ es, aB_ fs e) (hk : 0 ≤ k) (hb : k + aX_ (aU_ fs) es ≤ 4611686018427387904)
 (hK : ∀ H' g, (∀ l ∈ g, lo ≤ l ∧ l < hi) → But g H H' → FB lo hi H' a (.list 0 fs.length (aI_ (a9_ mt fs) es k).1) → K (.val (.int .i64 (aI_ (a9_ mt fs) es k).2)) H') : callSem P F [a, .val (.int .i64 k)] H K := by
 obtain ⟨⟨n, g, h1, h2, h3⟩, h4⟩ := ha
 refine hc n a es g H k K h1 h2 hsh hk hb fun H' m' e1 e2 e3 => hK H' g h3 ⟨by omega, fun l _ hg => e2 l hg⟩ ⟨⟨m', g, e3, h2, h3⟩, by omega⟩
theorem mV_ {P : Program} {F : FuncId} {mt : Int → ByteArray} {fs : List Sch} (hc : pR_ P F mt fs) {lo hi : Nat} {H : List Row} {cs ds : List AV} {k : Int} {K : AV → List Row → Prop} (ha : FB lo hi H (.agg cs) (.agg ds)) (hsh : aB_ fs ds) (hk : 0 ≤ k) (hb : k + bn_ fs ds ≤ 4611686018427387904)
 (hK : ∀ H' g, (∀ l ∈ g, lo ≤ l ∧ l < hi) → But g H H' → FB lo hi H' (.agg cs) (.agg (aY_ mt fs ds k).1) → K (.val (.int .i64 (aY_ mt fs ds k).2)) H') : callSem P F [.agg cs, .val (.int .i64 k)] H K := by
 have h4 := ha.le
 obtain ⟨n, g, h1, h2, h3⟩ := ha.tree.unagg
 refine hc n cs ds g H k K h1 h2 hsh hk hb fun H' e1 e2 ⟨m', e3⟩ => hK H' g h3 ⟨e1, fun l hl hg => e2 l hl hg⟩ ⟨⟨m' + 1, g, ⟨_, e3, rfl⟩, h2, h3⟩, by omega⟩
theorem FB.two {lo hi : Nat} {H : List Row} {a r : AV} {v u : Value} (h : FB lo hi H (.tup [a, .val v]) (.tup [r, .val u])) : FB lo hi H a r ∧ (.val v = AV.val u) := by
 have h4 := h.le
 obtain ⟨n, fs, h1, h2, h3⟩ := h.tree.untup
 obtain ⟨d, ds, f, f', e1, rfl, q1, q2⟩ := h1
 simp only [List.cons.injEq] at e1
 obtain ⟨rfl, rfl⟩ := e1
 obtain ⟨d, ds, f2, f3, e1, rfl, q3, q4⟩ := q2
 simp only [List.cons.injEq] at e1
 obtain ⟨rfl, rfl⟩ := e1
 obtain ⟨_, rfl⟩ := q4
 obtain ⟨rfl, e⟩ := q3.of_val
 refine ⟨⟨⟨n, f, q1, (nodup_append.1 h2).1, fun l hl => h3 l (mem_append_left _ hl)⟩, h4⟩, e⟩
theorem FB.arg {lo hi : Nat} {H : List Row} {a r : AV} (h : FB lo hi H a r) : b5_ H a r := h.tree.arg
theorem gY_ {α : Type} {c : List AV → Nat} {f : α → List AV} {sz : α → Nat} {K : Nat} (h : ∀ x, c (f x) ≤ K * (1 + sz x)) : ∀ xs : List α, aX_ c (xs.map f) ≤ K * ar_ sz xs
 | [] => by simp [aX_]
 | x :: xs => by
  have h1 := gY_ h xs
  have h2 := h x
  simp only [map_cons, aX_, ar_, cq_, List.length_cons] at h1 ⊢
  have : K * (xs.length + 1 + (sz x + cq_ sz xs)) = K * (1 + sz x) + K * (xs.length + cq_ sz xs) := by rw [← Nat.mul_add]; congr 1; omega
  omega
variable {mt : Int → ByteArray}
theorem f0_ : ∀ (fs : List Sch) (cs : List AV) (k : Int), aB_ fs cs → bn_ fs (aY_ mt fs cs k).1 = bn_ fs cs
 | [], cs, k, h => by simp [bn_]
 | .list fs :: ss, cs, k, h => by
  unfold aB_ at h
  obtain ⟨c, r, rfl, h1, h2⟩ := h
  simp only [aY_, bn_]
  rw [kn_ _ c k h1, f0_ ss r _ h2]
 | .int :: ss, cs, k, h => by
  unfold aB_ at h
  obtain ⟨c, r, rfl, h1, h2⟩ := h
  simp only [aY_, bn_]
  exact f0_ ss r _ h2
 | .str :: ss, cs, k, h => by
  unfold aB_ at h
  obtain ⟨c, r, rfl, h1, h2⟩ := h
  simp only [aY_, bn_]
  exact f0_ ss r _ h2
 | .bool :: ss, cs, k, h => by
  unfold aB_ at h
  obtain ⟨c, r, rfl, h1, h2⟩ := h
  simp only [aY_, bn_]
  exact f0_ ss r _ h2
theorem lR_ : ∀ (fs : List Sch) (cs : List AV), aB_ fs cs → cs.all AV.flat = true
 | [], cs, h => by unfold aB_ at h; subst h; rfl
 | s :: ss, cs, h => by
  unfold aB_ at h
  obtain ⟨c, r, rfl, h1, h2⟩ := h
  rw [all_cons, lR_ ss r h2, Bool.and_true]
  cases s <;> (unfold aL_ at h1; obtain ⟨_, h1⟩ := h1) <;> first | (subst h1; rfl) | (obtain ⟨rfl, _⟩ := h1; rfl)
theorem bU_ {t : Nat → AV} {h : List Row} (a s : Nat) (n : Option Nat) (K : AV → List Row → Prop) : cu_ [.cell a n, .tmp s] K .ret t h = match ai_ t h (.load n (.tmp a)) with | some av => K (.tup [av, t s]) h | none => False := by
 simp only [cu_, c6_, mapM_cons, mapM_nil]
 cases ai_ t h (.load n (.tmp a)) <;> simp [cr_]
def Cv (L : Nat) (a b : AV) : Prop := b = a ∨ (a = .val (.slice none 0 0) ∧ b = .own L 0)
def CvL (L : Nat) : List AV → List AV → Prop
 | [], bs => bs = []
 | a :: as, bs => ∃ b r, bs = b :: r ∧ Cv L a b ∧ CvL L as r
def dR_ (L : Nat) : List (List AV) → List (List AV) → Prop
 | [], bs => bs = []
 | a :: as, bs => ∃ b r, bs = b :: r ∧ CvL L a b ∧ dR_ L as r
theorem CvL.len {L : Nat} : ∀ {as bs : List AV}, CvL L as bs → bs.length = as.length
 | [], bs, h => by unfold CvL at h; subst h; rfl
 | a :: as, bs, h => by
  unfold CvL at h
  obtain ⟨b, r, rfl, _, h2⟩ := h
  simp [h2.len]
theorem CvL.refl (L : Nat) : ∀ as : List AV, CvL L as as
 | [] => rfl
 | a :: as => ⟨a, as, rfl, .inl rfl, CvL.refl L as⟩
theorem dR_.refl (L : Nat) : ∀ as : List (List AV), dR_ L as as
 | [] => rfl
 | a :: as => ⟨a, as, rfl, CvL.refl L a, dR_.refl L as⟩
theorem dR_.len {L : Nat} : ∀ {as bs : List (List AV)}, dR_ L as bs → bs.length = as.length
 | [], bs, h => by unfold dR_ at h; subst h; rfl
 | a :: as, bs, h => by
  unfold dR_ at h
  obtain ⟨b, r, rfl, _, h2⟩ := h
  simp [h2.len]
theorem dR_.all {L sz : Nat} : ∀ {as bs : List (List AV)}, dR_ L as bs → (∀ e ∈ as, e.length = sz) → ∀ e ∈ bs, e.length = sz
 | [], bs, h, _ => by unfold dR_ at h; subst h; simp
 | a :: as, bs, h, hs => by
  unfold dR_ at h
  obtain ⟨b, r, rfl, h1, h2⟩ := h
  intro e he
  rcases mem_cons.1 he with q | q
  ·subst q; rw [h1.len]; exact hs a (by simp)
  ·exact h2.all (fun x hx => hs x (by simp [hx])) e q
section
variable {S S' : Sit} {L sz : Nat} (hle : S.le S') (hL : S'.rows[L]? = some ⟨0, none, 0, sz⟩)
include hle hL
theorem Cv.rep {a b : AV} {x : Value} (h : Cv L a b) (r : Rep S a x) : Rep S' b x := by
 rcases h with rfl | ⟨rfl, rfl⟩
 ·exact Rep.up hle _ _ r
 ·simp only [Rep] at r ⊢
  subst r
  exact ⟨⟨_, _, _, rfl⟩, _, hL, Nat.le_refl _, fun _ => .inl rfl⟩
theorem CvL.repPre : ∀ {as bs : List AV} {vs : List Value}, CvL L as bs → ay_ S as vs → ay_ S' bs vs
 | [], bs, vs, h, r => by unfold CvL at h; subst h; simp [ay_]
 | a :: as, bs, vs, h, r => by
  unfold CvL at h
  obtain ⟨b, q, rfl, h1, h2⟩ := h
  simp only [ay_] at r ⊢
  obtain ⟨v, w, e, r1, r2⟩ := r
  exact ⟨v, w, e, h1.rep hle hL r1, CvL.repPre h2 r2⟩
theorem dR_.rep : ∀ {as bs : List (List AV)} {vs : List Value}, dR_ L as bs → am_ S as vs → am_ S' bs vs
 | [], bs, vs, h, r => by unfold dR_ at h; subst h; simp [am_]
 | a :: as, bs, vs, h, r => by
  unfold dR_ at h
  obtain ⟨b, q, rfl, h1, h2⟩ := h
  simp only [am_] at r ⊢
  exact ⟨h1.repPre hle hL r.1, by rw [h1.len]; exact dR_.rep h2 r.2⟩
end
theorem p0_ {N : Nat} {t t' : Nat → AV} {h h' : List Row} (E : Tag) (hE : ∃ T, E = .ty T) (sz : Nat) (ht : ∀ k, Cv h.length (t k) (t' k)) (hlen : h'.length = h.length + 1) (hnew : h'[h.length]? = some ⟨E, sz, []⟩)
 (hrow : ∀ l r', l < h.length → h'[l]? = some r' → ∃ r, h[l]? = some r ∧ r'.E = r.E ∧ r'.sz = r.sz ∧ dR_ h.length r.es r'.es) : km_ N t h t' h' := by
 intro S w a hm hr
 have hl := hm.len
 have hle : S.le { imm := S.imm, rows := S.rows ++ [⟨0, none, 0, sz⟩] } := ⟨fun _ _ e => e, fun l i e => ⟨i, by
  show (S.rows ++ _)[l]? = _
  rw [getElem?_append_left (List.getElem?_eq_some_iff.1 e).1]; exact e, Nat.le_refl _, fun _ => rfl⟩⟩
 have hL : ({ imm := S.imm, rows := S.rows ++ [⟨0, none, 0, sz⟩] } : Sit).rows[h.length]? = some ⟨0, none, 0, sz⟩ := by
  show (S.rows ++ _)[h.length]? = _
  rw [← hl, getElem?_append_right (Nat.le_refl _), Nat.sub_self]; rfl
 have hcase : ∀ (l : Nat) (i : bF_), (S.rows ++ [⟨0, none, 0, sz⟩])[l]? = some i → (l < h.length ∧ S.rows[l]? = some i) ∨ (l = h.length ∧ i = ⟨0, none, 0, sz⟩) := by
  intro l i q
  by_cases hlt : l < h.length
  ·left; rw [getElem?_append_left (by omega)] at q; exact ⟨hlt, q⟩
  ·right
   have h2 := (List.getElem?_eq_some_iff.1 q).1
   simp only [List.length_append, List.length_cons, List.length_nil] at h2
   have e : l = h.length := by omega
   subst e
   refine ⟨rfl, ?_⟩
   rw [← hl, getElem?_append_right (Nat.le_refl _), Nat.sub_self] at q
   simpa using q.symm
 refine ⟨{ imm := S.imm, rows := S.rows ++ [⟨0, none, 0, sz⟩] }, ⟨hle, rfl, rfl, rfl, Nat.le_refl _, fun _ _ _ => rfl, ?_, fun b c q => .inl q⟩, ⟨hm.imm, by simp [hl, hlen], ?_, ?_⟩, ⟨hr.1, hr.2.1, fun k hk => (ht k).rep hle hL (hr.2.2 k hk)⟩⟩
 ·rintro b ⟨l, i, q1, q2⟩
  rcases hcase l i q1 with ⟨_, q⟩ | ⟨_, q⟩
  ·exact .inl ⟨l, i, q, q2⟩
  ·subst q; simp at q2
 ·intro l i r' q1 q2
  rcases hcase l i q1 with ⟨hlt, q⟩ | ⟨rfl, rfl⟩
  ·obtain ⟨r, e1, e2, e3, e4⟩ := hrow l r' hlt q2
   obtain ⟨k1, k2, k3, k4⟩ := hm.rows l i r q e1
   refine ⟨by rw [e4.len]; exact k1, by rw [e3]; exact k2, by rw [e3]; exact e4.all k3, ?_⟩
   cases hb : i.blk with
   | none =>
    rw [hb] at k4
    obtain ⟨k4, k5⟩ := k4
    rw [k4] at e4
    exact ⟨e4, k5⟩
   | some b =>
    rw [hb] at k4
    refine ⟨k4.1, ?_⟩
    have k5 := k4.2
    unfold ba_ at k5 ⊢
    rw [e2]
    split at k5
    ·rename_i T hT
     obtain ⟨c, j1, j2, j3⟩ := k5
     exact ⟨c, j1, e4.rep hle hL j2, j3⟩
    ·rename_i ents hT
     obtain ⟨j1, j2, j3⟩ := k5
     rw [j1] at e4
     exact ⟨e4, by rw [e3]; exact j2, j3⟩
    ·rename_i T hT
     obtain ⟨⟨c, j1, j2, j3⟩, j4⟩ := k5
     exact ⟨⟨c, j1, e4.rep hle hL j2, j3⟩, j4⟩
    ·rename_i T hT
     obtain ⟨c, fr, j1, j2, j3⟩ := k5
     exact ⟨c, fr, j1, e4.rep hle hL j2, j3⟩
  ·rw [hnew] at q2
   obtain rfl := Option.some.inj q2
   exact ⟨rfl, rfl, by simp, rfl, rfl⟩
 ·intro l l' i i' b q1 q1' q2 q2'
  rcases hcase l i q1 with ⟨_, q⟩ | ⟨_, rfl⟩
  ·rcases hcase l' i' q1' with ⟨_, q'⟩ | ⟨_, rfl⟩
   ·exact hm.one l l' i i' b q q' q2 q2'
   ·simp at q2'
  ·simp at q2
theorem nE_ {N : Nat} {t : Nat → AV} {h : List Row} : km_ N t h t h := fun S w a hm hr => ⟨S, .refl S w, hm, hr⟩
theorem lH_ {N : Nat} {t : Nat → AV} {h : List Row} (d : Nat) (T : TypeId) (sz : Nat) (hd : t d = .val (.slice none 0 0)) : km_ N t h (upd t d (.own h.length 0)) (h ++ [⟨.ty T, sz, []⟩]) := by
 refine p0_ (.ty T) ⟨T, rfl⟩ sz (fun k => ?_) (by simp) (by rw [es_]; rfl) (fun l r' hl hr => ⟨r', by rwa [getElem?_append_left hl] at hr, rfl, rfl, dR_.refl _ _⟩)
 by_cases e : k = d
 ·subst e; right; exact ⟨hd, si_ _ _ _⟩
 ·left; exact wr_ _ _ _ _ e
structure de_ (l : Nat) (H : List Row) (E : Tag) (sz : Nat) (done ds : List (List AV)) : Prop where
 row : H[l]? = some ⟨E, sz, done⟩
 tree : bp_ (l + 1) H.length H done ds
theorem de_.lt {l : Nat} {H : List Row} {E : Tag} {sz : Nat} {done ds : List (List AV)} (g : de_ l H E sz done ds) : l < H.length := (List.getElem?_eq_some_iff.1 g.row).1
theorem de_.step {l : Nat} {H H1 H2 : List Row} {E : Tag} {sz : Nat} {done ds : List (List AV)} {cs rs : List AV} (g : de_ l H E sz done ds) (hf : at_ H.length H1.length H1 cs rs) (h1 : H.length ≤ H1.length) (hk : ∀ x, l < x → x < H.length → H1[x]? = H[x]?)
 (h2 : H1.length ≤ H2.length) (hk2 : ∀ x, l < x → x < H1.length → H2[x]? = H1[x]?) (hr : H2[l]? = some ⟨E, sz, done ++ [cs]⟩) : de_ l H2 E sz (done ++ [cs]) (ds ++ [rs]) := by
 refine ⟨hr, bp_.snoc (mid := H.length) (g.tree.keep fun x q1 q2 => ?_) ((hf.keep fun x q1 q2 => ?_).widen (Nat.le_refl _) h2) ⟨g.lt, by omega⟩⟩
 ·rw [hk2 x (by omega) (by omega), hk x (by omega) q2]
 ·exact hk2 x (by have := g.lt; omega) q2
theorem de_.more {l : Nat} {H H' : List Row} {E : Tag} {sz : Nat} {done ds : List (List AV)} (g : de_ l H E sz done ds) (h1 : H.length ≤ H'.length) (hk : ∀ x, l ≤ x → x < H.length → H'[x]? = H[x]?) : de_ l H' E sz done ds :=
 ⟨by rw [hk l (Nat.le_refl _) g.lt]; exact g.row, (g.tree.keep fun x q1 q2 => hk x (by omega) q2).widen (Nat.le_refl _) h1⟩
theorem de_.done {l n : Nat} {H : List Row} {E : Tag} {sz : Nat} {done ds : List (List AV)} (g : de_ l H E sz done ds) (hn : done.length = n) : aN_ l H.length H (.own l n) (.list 0 sz ds) :=
 aN_.mkown g.tree g.row hn (Nat.le_refl _) (Nat.lt_succ_self _) g.lt
theorem de_.agg {l n lo : Nat} {H : List Row} {E : Tag} {sz : Nat} {done ds : List (List AV)} (g : de_ l H E sz done ds) (hn : done.length = n) (hlo : lo ≤ l) (v u : Value) : aN_ lo H.length H (.agg [.val v, .val u, .own l n]) (.agg [.val v, .val u, .list 0 sz ds]) :=
 (aN_.agg (at_.val _ (at_.val _ (at_.cons (g.done hn) (at_.nil _ _ _) ⟨Nat.le_of_lt g.lt, Nat.le_refl _⟩)))).widen hlo (Nat.le_refl _)
theorem de_.zero {l : Nat} {H : List Row} {E : Tag} {sz : Nat} (h : H[l]? = some ⟨E, sz, []⟩) : de_ l H E sz [] [] := ⟨h, .nil _ _ _⟩
theorem at_.rest {lo hi : Nat} {H : List Row} {a r : AV} {as rs : List AV} (h : at_ lo hi H (a :: as) (r :: rs)) : at_ lo hi H as rs := by
 obtain ⟨n, fs, ⟨d, ds, f, f', e1, rfl, h1, h2⟩, p2, p3⟩ := h
 cases e1
 exact ⟨n, f', h2, (nodup_append.1 p2).2.1, fun l hl => p3 l (mem_append_right _ hl)⟩
section
variable {H0 H H' : List Row} {i : Nat} {r : Row}
theorem bk_.refl (H : List Row) : bk_ H H := ⟨Nat.le_refl _, fun _ _ => rfl⟩
theorem bk_.set (m : bk_ H0 H) (h : H0.length ≤ i) : bk_ H0 (H.set i r) := ⟨by rw [List.length_set]; exact m.len, fun l hl => by rw [getElem?_set_ne (by omega)]; exact m.kept l hl⟩
theorem bk_.add (m : bk_ H0 H) (l : List Row) : bk_ H0 (H ++ l) := ⟨by rw [List.length_append]; have := m.len; omega, fun x hx => by rw [getElem?_append_left (by have := m.len; omega)]; exact m.kept x hx⟩
theorem bk_.app (H l : List Row) : bk_ H (H ++ l) := (bk_.refl H).add l
theorem bk_.tail (m : bk_ H0 H) : ∃ hn, H = H0 ++ hn := by
 refine ⟨H.drop H0.length, ?_⟩
 have e : H.take H0.length = H0 := by
  apply ext_getElem?
  intro l
  rw [getElem?_take]
  by_cases q : l < H0.length
  ·rw [if_pos q]; exact m.kept l q
  ·rw [if_neg q, getElem?_eq_none (by omega)]
 rw [← take_append_drop H0.length H, e]
 simp
end
theorem aN_.pair {lo hi : Nat} {H : List Row} {a r : AV} (h : aN_ lo hi H a r) (hl : lo ≤ hi) (v : Value) : aN_ lo hi H (.tup [a, .val v]) (.tup [r, .val v]) :=
 aN_.tup (at_.cons h (at_.val v (at_.nil hi hi H)) ⟨hl, Nat.le_refl _⟩)
structure Res (h h' : List Row) (av r : AV) : Prop where
 more : bk_ h h'
 tree : aN_ h.length h'.length h' av r
theorem lB_ {P : Program} {f : FuncId} {fn : Func} {lf : LF} {args : List AV} {r : AV} {Q : AV → Prop} (hmx : P.follows .mixedOrders = true) (hf : P.funcs[f]? = some fn) (hl : as_ P fn lf) (hn : args.length = lf.np)
 (hw : ∀ h : List Row, Ex P lf.N (cu_ lf.res fun av h' => Res h h' av r ∧ Q av) lf.body [] (eO_ args) h) : bA_ P f args r Q := by
 intro h K hk
 refine (bg_ hmx hf hl (b4_ hn (hw h))).mono ?_
 rintro a h' ⟨⟨m, h1⟩, h2⟩
 obtain ⟨hn, rfl⟩ := m.tail
 exact hk a hn h1.fresh h2
mutual
def AV.shift (k : Nat) : AV → AV
 | .val v => .val v
 | .list tk sz es => .list tk sz es
 | .iptr cs => .iptr cs
 | .ptr l n i off => .ptr (l + k) n i off
 | .own l n => .own (l + k) n
 | .sub l n lo hi => .sub (l + k) n lo hi
 | .mp l => .mp (l + k)
 | .agg cs => .agg (c2_ k cs)
 | .tup cs => .tup (c2_ k cs)
 | .fn f a b => .fn f (c2_ k a) (c2_ k b)
 | .undef => .undef
def c2_ (k : Nat) : List AV → List AV
 | [] => []
 | c :: cs => c.shift k :: c2_ k cs
end
theorem j7_ (k : Nat) : ∀ cs : List AV, (c2_ k cs).length = cs.length
 | [] => rfl
 | c :: cs => by simp only [c2_, List.length_cons]; rw [j7_ k cs]
def fy_ (k : Nat) (es : List (List AV)) : List (List AV) := es.map (c2_ k)
def ea_ (k : Nat) (r : Row) : Row := ⟨r.E, r.sz, fy_ k r.es⟩
section
variable {S S2 : Sit} {R : List bF_} {k : Nat} (himm : S2.imm = S.imm) (hrows : S2.rows = R ++ S.rows) (hk : R.length = k)
include himm hrows hk
theorem gZ_ {l : Nat} : S2.rows[l + k]? = S.rows[l]? := by
 rw [hrows, getElem?_append_right (by omega)]; congr 1; omega
theorem js_ : S2.still = S.still := by simp [Sit.still, himm]
mutual
theorem Rep.shift : ∀ (a : AV) (x : Value), Rep S a x → Rep S2 (a.shift k) x
 | .val v, x, r => by simpa [Rep, AV.shift] using r
 | .list tk sz es, x, r => by
  simp only [Rep, AV.shift] at r ⊢
  rw [himm, js_ himm hrows hk]; exact r
 | .iptr cs, x, r => by
  simp only [Rep, AV.shift] at r ⊢
  rw [himm, js_ himm hrows hk]; exact r
 | .ptr l n i off, x, r => by
  simp only [Rep, AV.shift] at r ⊢
  rw [gZ_ himm hrows hk]; exact r
 | .own l n, x, r => by
  simp only [Rep, AV.shift] at r ⊢
  rw [gZ_ himm hrows hk]; exact r
 | .sub l n lo hi, x, r => by
  simp only [Rep, AV.shift] at r ⊢
  rw [gZ_ himm hrows hk]; exact r
 | .mp l, x, r => by
  simp only [Rep, AV.shift] at r ⊢
  rw [gZ_ himm hrows hk]; exact r
 | .agg cs, x, r => by
  simp only [Rep, AV.shift] at r ⊢
  obtain ⟨vs, e, r⟩ := r
  exact ⟨vs, e, af_.shift cs _ r⟩
 | .tup cs, x, r => by
  simp only [Rep, AV.shift] at r ⊢
  obtain ⟨vs, e, r⟩ := r
  exact ⟨vs, e, af_.shift cs _ r⟩
 | .fn f a b, x, r => by
  simp only [Rep, AV.shift] at r ⊢
  obtain ⟨vs, us, e, r1, r2⟩ := r
  exact ⟨vs, us, e, af_.shift a _ r1, af_.shift b _ r2⟩
 | .undef, x, r => by simp [Rep, AV.shift]
theorem af_.shift : ∀ (a : List AV) (x : List Value), af_ S a x → af_ S2 (c2_ k a) x
 | [], x, r => by simpa [af_, c2_] using r
 | c :: cs, x, r => by
  simp only [af_, c2_] at r ⊢
  obtain ⟨v, w, e, r1, r2⟩ := r
  exact ⟨v, w, e, Rep.shift c v r1, af_.shift cs w r2⟩
end
theorem ay_.shift : ∀ (a : List AV) (x : List Value), ay_ S a x → ay_ S2 (c2_ k a) x
 | [], x, r => by simp [ay_, c2_]
 | c :: cs, x, r => by
  simp only [ay_, c2_] at r ⊢
  obtain ⟨v, w, e, r1, r2⟩ := r
  exact ⟨v, w, e, Rep.shift himm hrows hk c v r1, ay_.shift cs w r2⟩
theorem am_.shift : ∀ (es : List (List AV)) (x : List Value), am_ S es x → am_ S2 (fy_ k es) x
 | [], x, r => by simp [am_, fy_]
 | c :: cs, x, r => by
  simp only [fy_, map_cons, am_] at r ⊢
  exact ⟨ay_.shift himm hrows hk c _ r.1, by rw [j7_]; exact am_.shift cs _ r.2⟩
end
section
variable {H h : List Row} {k : Nat} (hk : h.length = k)
include hk
theorem lG_ {l : Nat} : (h ++ H.map (ea_ k))[l + k]? = (H[l]?).map (ea_ k) := by
 rw [getElem?_append_right (by omega), getElem?_map]; congr 2; omega
theorem aw_.shift {R R' : AV → AV → List Nat → Prop} (hR : ∀ a r f, R a r f → R' (a.shift k) r (f.map (· + k))) : ∀ {as rs : List AV} {fs : List Nat}, aw_ R as rs fs → aw_ R' (c2_ k as) rs (fs.map (· + k))
 | [], rs, fs, ho => by
  obtain ⟨rfl, rfl⟩ := ho
  exact ⟨rfl, rfl⟩
 | a :: as, rs, fs, ho => by
  obtain ⟨d, ds, f, f', rfl, rfl, h1, h2⟩ := ho
  exact ⟨d, ds, _, _, rfl, by rw [map_append], hR _ _ _ h1, aw_.shift hR h2⟩
theorem aR_.shift {R R' : AV → AV → List Nat → Prop} (hR : ∀ a r f, R a r f → R' (a.shift k) r (f.map (· + k))) : ∀ {as rs : List (List AV)} {fs : List Nat}, aR_ R as rs fs → aR_ R' (fy_ k as) rs (fs.map (· + k))
 | [], rs, fs, ho => by
  obtain ⟨rfl, rfl⟩ := ho
  exact ⟨rfl, rfl⟩
 | a :: as, rs, fs, ho => by
  obtain ⟨d, ds, f, f', rfl, rfl, h1, h2⟩ := ho
  exact ⟨d, ds, _, _, rfl, by rw [map_append], aw_.shift hk hR h1, aR_.shift hR h2⟩
theorem Own.shift : ∀ {n : Nat} {a r : AV} {fs : List Nat}, Own H n a r fs → Own (h ++ H.map (ea_ k)) n (a.shift k) r (fs.map (· + k))
 | 0, a, r, fs, ho => ho.elim
 | n + 1, .val v, r, fs, ho => by
  obtain ⟨rfl, h2⟩ := ho
  exact ⟨rfl, h2⟩
 | n + 1, .own l m, r, fs, ho => by
  obtain ⟨row, es, f, h1, h2, h3, rfl, rfl⟩ := ho
  refine ⟨ea_ k row, es, _, by rw [lG_ hk, h1]; rfl, by simpa [ea_, fy_] using h2, aR_.shift hk (fun a r f ho => Own.shift ho) h3, rfl, by simp⟩
 | n + 1, .sub l m lo hi, r, fs, ho => by
  obtain ⟨row, es, f, h1, h2, h3, rfl, rfl⟩ := ho
  refine ⟨ea_ k row, es, _, by rw [lG_ hk, h1]; rfl, by simpa [ea_, fy_] using h2, aR_.shift hk (fun a r f ho => Own.shift ho) h3, rfl, by simp⟩
 | n + 1, .agg cs, r, fs, ho => by
  obtain ⟨ds, h1, rfl⟩ := ho
  exact ⟨ds, aw_.shift hk (fun a r f ho => Own.shift ho) h1, rfl⟩
 | n + 1, .tup cs, r, fs, ho => by
  obtain ⟨ds, h1, rfl⟩ := ho
  exact ⟨ds, aw_.shift hk (fun a r f ho => Own.shift ho) h1, rfl⟩
 | n + 1, .list _ _ _, r, fs, ho => ho.elim
 | n + 1, .iptr _, r, fs, ho => ho.elim
 | n + 1, .ptr _ _ _ _, r, fs, ho => ho.elim
 | n + 1, .mp _, r, fs, ho => ho.elim
 | n + 1, .fn _ _ _, r, fs, ho => ho.elim
 | n + 1, .undef, r, fs, ho => ho.elim
theorem aN_.shift {lo hi : Nat} {a r : AV} (hf : aN_ lo hi H a r) : aN_ (lo + k) (hi + k) (h ++ H.map (ea_ k)) (a.shift k) r := by
 obtain ⟨n, fs, h1, h2, h3⟩ := hf
 refine ⟨n, _, Own.shift hk h1, List.Pairwise.map _ (fun a b hab q => hab (by omega)) h2, fun l hl => ?_⟩
 obtain ⟨m, hm, rfl⟩ := mem_map.1 hl
 have := h3 m hm
 omega
end
section
variable {H l t : List Row} {i j : Nat} {r : Row}
theorem bo_ (h : i ≠ j) : (H.set i r)[j]? = H[j]? := getElem?_set_ne h
theorem bX_ (h : i < H.length) : (H.set i r)[i]? = some r := by rw [getElem?_set_self h]
theorem bR_ (h : i < H.length) : (H ++ l)[i]? = H[i]? := getElem?_append_left h
theorem ed_ (h : i = H.length) : (H ++ r :: t)[i]? = some r := by subst h; rw [getElem?_append_right (Nat.le_refl _), Nat.sub_self]; rfl
theorem hf_ {s : Row} (h : i = H.length + 1) : (H ++ r :: s :: t)[i]? = some s := by subst h; rw [getElem?_append_right (by omega)]; simp
theorem p4_ {s u : Row} (h : i = H.length + 2) : (H ++ r :: s :: u :: t)[i]? = some u := by subst h; rw [getElem?_append_right (by omega)]; simp
theorem qR_ {s u v : Row} (h : i = H.length + 3) : (H ++ r :: s :: u :: v :: t)[i]? = some v := by subst h; rw [getElem?_append_right (by omega)]; simp
end
structure Tr where
 c : List AV
 d : List AV
 f : List Nat
theorem aR_.of_trs {R : AV → AV → List Nat → Prop} : ∀ ts : List Tr, (∀ t ∈ ts, aw_ R t.c t.d t.f) → aR_ R (ts.map Tr.c) (ts.map Tr.d) (ts.map Tr.f).flatten
 | [], _ => ⟨rfl, rfl⟩
 | t :: ts, h => ⟨t.d, ts.map Tr.d, t.f, (ts.map Tr.f).flatten, rfl, by simp, h t (by simp), aR_.of_trs ts fun x hx => h x (by simp [hx])⟩
def hZ_ (l : Nat) (ts : List Tr) : List Nat := l :: (ts.map Tr.f).flatten
structure c7_ (lo : Nat) (H : List Row) (E sz l m : Nat) (ts : List Tr) : Prop where
 row : H[l]? = some ⟨.ty E, sz, ts.map Tr.c⟩
 le : m ≤ ts.length
 wide : ∀ t ∈ ts, t.c.length = sz ∧ t.c.all AV.cell = true
 tree : ∃ k, ∀ t ∈ ts, aw_ (Own H k) t.c t.d t.f
 one : (hZ_ l ts).Nodup
 lows : ∀ x ∈ hZ_ l ts, lo ≤ x ∧ x < H.length
def Sl (a : AV) (l m : Nat) (ts : List Tr) : Prop := a = .sub l ts.length 0 m ∨ (a = .own l ts.length ∧ m = ts.length)
section
variable {lo E sz l m : Nat} {H H' : List Row} {ts : List Tr} {a : AV}
theorem c7_.lt (s : c7_ lo H E sz l m ts) : l < H.length := (List.getElem?_eq_some_iff.1 s.row).1
theorem c7_.fresh (s : c7_ lo H E sz l m ts) : aN_ lo H.length H (.sub l ts.length 0 m) (.list 0 sz ((ts.take m).map Tr.d)) := by
 obtain ⟨k, hk⟩ := s.tree
 exact ⟨k + 1, hZ_ l ts, ⟨⟨.ty E, sz, ts.map Tr.c⟩, ts.map Tr.d, (ts.map Tr.f).flatten, s.row, by simp, aR_.of_trs ts hk, by simp [map_take], rfl⟩, s.one, s.lows⟩
theorem c7_.freshOwn (s : c7_ lo H E sz l m ts) : aN_ lo H.length H (.own l ts.length) (.list 0 sz (ts.map Tr.d)) := by
 obtain ⟨k, hk⟩ := s.tree
 exact ⟨k + 1, hZ_ l ts, ⟨⟨.ty E, sz, ts.map Tr.c⟩, ts.map Tr.d, (ts.map Tr.f).flatten, s.row, by simp, aR_.of_trs ts hk, rfl, rfl⟩, s.one, s.lows⟩
theorem c7_.freshS (s : c7_ lo H E sz l m ts) (h : Sl a l m ts) : aN_ lo H.length H a (.list 0 sz ((ts.take m).map Tr.d)) := by
 rcases h with rfl | ⟨rfl, rfl⟩
 ·exact s.fresh
 ·rw [take_length]; exact s.freshOwn
theorem Sl.cell (h : Sl a l m ts) : a.cell = true := by
 rcases h with rfl | ⟨rfl, _⟩ <;> rfl
theorem c7_.keep (s : c7_ lo H E sz l m ts) (hk : ∀ x ∈ hZ_ l ts, H'[x]? = H[x]?) (hl : H.length ≤ H'.length) : c7_ lo H' E sz l m ts := by
 obtain ⟨k, ht⟩ := s.tree
 refine ⟨by rw [hk l (by simp [hZ_])]; exact s.row, s.le, s.wide, ⟨k, fun t q => ?_⟩, s.one, fun x hx => ?_⟩
 ·refine aw_.mono (fun a r g hg ho => ho.keep fun x hx => hk x ?_) (ht t q)
  exact mem_cons_of_mem _ (mem_flatten.2 ⟨t.f, mem_map.2 ⟨t, q, rfl⟩, hg x hx⟩)
 ·have := s.lows x hx; omega
theorem c7_.more (s : c7_ lo H E sz l m ts) (h : bk_ H H') : c7_ lo H' E sz l m ts := s.keep (fun x hx => h.kept x (s.lows x hx).2) h.len
theorem c7_.apart (s : c7_ lo H E sz l m ts) {t : Tr} (ht : t ∈ ts) : l ∉ t.f := by
 intro h
 have := (nodup_cons.1 s.one).1
 exact this (mem_flatten.2 ⟨t.f, mem_map.2 ⟨t, ht, rfl⟩, h⟩)
theorem c7_.arg (s : c7_ lo H E sz l m ts) {t : Tr} (ht : t ∈ ts) (hk : ∀ x ∈ t.f, H'[x]? = H[x]?) : b5_ H' (.agg t.c) (.agg t.d) := by
 obtain ⟨k, h⟩ := s.tree
 exact .inr ⟨k + 1, t.f, t.d, aw_.mono (fun a r g hg ho => ho.keep fun x hx => hk x (hg x hx)) (h t ht), rfl⟩
theorem c7_.put (s : c7_ lo H E sz l m ts) {k : Nat} {t' : Tr} (hk : k < ts.length) (hf : t'.f = ts[k].f) (hw : t'.c.length = sz ∧ t'.c.all AV.cell = true) (ht : ∀ n, aw_ (Own H n) ts[k].c ts[k].d ts[k].f → aw_ (Own H n) t'.c t'.d t'.f) : c7_ lo (H.set l ⟨.ty E, sz, (ts.set k t').map Tr.c⟩) E sz l m (ts.set k t') := by
 obtain ⟨q, h⟩ := s.tree
 have hmap : (ts.set k t').map Tr.f = ts.map Tr.f := by
  rw [map_set, hf]
  apply ext_getElem?
  intro i
  rw [getElem?_set]
  split
  ·rename_i e
   subst e
   rw [if_pos (by simpa using hk), getElem?_map, getElem?_eq_getElem hk]; rfl
  ·rfl
 have hkeep : ∀ t ∈ ts, ∀ x ∈ t.f, (H.set l ⟨.ty E, sz, (ts.set k t').map Tr.c⟩)[x]? = H[x]? := fun t ht x hx => getElem?_set_ne (fun e : l = x => s.apart ht (by rw [e]; exact hx))
 refine ⟨by rw [getElem?_set_self s.lt], by rw [List.length_set]; exact s.le, fun t ht' => ?_, ⟨q, fun t ht' => ?_⟩, ?_, fun x hx => ?_⟩
 ·rcases mem_or_eq_of_mem_set ht' with e | e
  ·exact s.wide t e
  ·subst e; exact hw
 ·rcases mem_or_eq_of_mem_set ht' with e | e
  ·exact aw_.mono (fun a r g hg ho => ho.keep fun x hx => hkeep t e x (hg x hx)) (h t e)
  ·subst e
   have := ht q (h _ (getElem_mem hk))
   exact aw_.mono (fun a r g hg ho => ho.keep fun x hx => hkeep _ (getElem_mem hk) x (by rw [← hf]; exact hg x hx)) this
 ·unfold hZ_; rw [hmap]; exact s.one
 ·unfold hZ_ at hx; rw [hmap] at hx
  rw [List.length_set]; exact s.lows x hx
end
structure eJ_ (H : List Row) (a r : AV) : Prop where
 out : ∀ (S : Sit) (w : World) (x : Value), ae_ S H w → Rep S a x → Rep (S.shut w) r x
def et_ (H : List Row) : List AV → List AV → Prop
 | [], rs => rs = []
 | a :: as, rs => ∃ r rs', rs = r :: rs' ∧ eJ_ H a r ∧ et_ H as rs'
theorem et_.nil {H : List Row} : et_ H [] [] := rfl
theorem et_.cons {H : List Row} {a r : AV} {as rs : List AV} (h1 : eJ_ H a r) (h2 : et_ H as rs) : et_ H (a :: as) (r :: rs) := ⟨_, _, rfl, h1, h2⟩
theorem b5_.any {H : List Row} {a r : AV} (h : b5_ H a r) : eJ_ H a r := ⟨fun S w x m hr => by
 rcases h with ⟨rfl, hp⟩ | ⟨n, fs, h1⟩
 ·exact Rep.up (gv_ m) _ _ (hy_ hp hr)
 ·exact Own.rep m n a x r fs hr h1⟩
theorem eJ_.same {H : List Row} {a : AV} (hp : a.plain = true) : eJ_ H a a := (b5_.same hp).any
theorem eJ_.res {H : List Row} {a r : AV} {n : Nat} (h : resolve H n a = some r) : eJ_ H a r := ⟨fun S w x m hr => hn_ m n a x r hr h⟩
theorem eJ_.box {H : List Row} {l : Nat} {E : Tag} {sz : Nat} {c r : AV} (hl : H[l]? = some ⟨E, sz, [[c]]⟩) (hc : eJ_ H c r) : eJ_ H (.ptr l 1 0 0) (.iptr [r]) := ⟨fun S w x m hr => by
 simp only [Rep] at hr
 obtain ⟨_, i, q1, q2, q3⟩ := hr
 obtain ⟨k1, k2, k3, k4⟩ := m.rows l i _ q1 hl
 obtain ⟨b, hb, hx⟩ := q3 (by rw [k1]; rfl)
 rw [hb] at k4
 obtain ⟨_, cs, _, ⟨_, j2, _⟩, j3, j4, j5, j6⟩ := k4.2.cells (.inl (by simp))
 simp only [am_, ay_] at j3
 obtain ⟨⟨v, q, e, r1, _⟩, _⟩ := j3
 have hown : S.ownsB b = true := df_.2 ⟨l, i, q1, hb⟩
 have hlen : cs.size = q.length + 1 := by
  have := congrArg List.length e
  simpa using this
 simp only [Rep]
 refine ⟨b, 0, cs, by simpa using hx, by simp [Sit.shut, hown, j2], by simp [hlen], ?_⟩
 rw [drop_zero, e]
 simp only [ay_]
 exact ⟨v, q, rfl, hc.out S w v m r1, trivial⟩⟩
theorem et_.rep {S : Sit} {H : List Row} {w : World} (m : ae_ S H w) : ∀ {as rs : List AV} {xs : List Value}, et_ H as rs → af_ S as xs → af_ (S.shut w) rs xs
 | [], rs, xs, h, r => by subst h; simpa [af_] using r
 | a :: as, rs, xs, h, r => by
  obtain ⟨d, ds, e, h1, h2⟩ := h
  subst e
  simp only [af_] at r ⊢
  obtain ⟨v, q, e, r1, r2⟩ := r
  exact ⟨v, q, e, h1.out S w v m r1, et_.rep m h2 r2⟩
structure TB (E0 E sz L lo : Nat) (H : List Row) (l m : Nat) (ts : List Tr) : Prop where
 box : ∃ a, H[L]? = some ⟨.ty E0, 1, [[a]]⟩ ∧ Sl a l m ts
 lt : L < lo
 at' : c7_ lo H E sz l m ts
theorem TB.tree {E0 E sz L lo l m : Nat} {H : List Row} {ts : List Tr} (b : TB E0 E sz L lo H l m ts) : ∃ a, H[L]? = some ⟨.ty E0, 1, [[a]]⟩ ∧ Sl a l m ts ∧ aN_ lo H.length H a (.list 0 sz ((ts.take m).map Tr.d)) := by
 obtain ⟨a, h1, h2⟩ := b.box
 exact ⟨a, h1, h2, b.at'.freshS h2⟩
theorem TB.keep {E0 E sz L lo l m : Nat} {H H' : List Row} {ts : List Tr} (b : TB E0 E sz L lo H l m ts) (hb : H'[L]? = H[L]?) (hk : ∀ x ∈ hZ_ l ts, H'[x]? = H[x]?) (hl : H.length ≤ H'.length) : TB E0 E sz L lo H' l m ts := by
 obtain ⟨a, h1, h2⟩ := b.box
 exact ⟨⟨a, hb.trans h1, h2⟩, b.lt, b.at'.keep hk hl⟩
theorem TB.more {E0 E sz L lo l m : Nat} {H H' : List Row} {ts : List Tr} (b : TB E0 E sz L lo H l m ts) (h : bk_ H H') : TB E0 E sz L lo H' l m ts := by
 obtain ⟨a, h1, h2⟩ := b.box
 exact b.keep (h.kept L (List.getElem?_eq_some_iff.1 h1).1) (fun x hx => h.kept x (b.at'.lows x hx).2) h.len
end Go.AW
