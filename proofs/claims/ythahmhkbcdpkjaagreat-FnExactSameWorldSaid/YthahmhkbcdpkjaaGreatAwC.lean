/-
 A small program logic over abstract values, proved sound over the model: what a function's code gives for data, without worlds and cells. Nothing of any one program. No conditions.
-/
import Derived.Test.YthahmhkbcdpkjaaGreatAwB
import Derived.Lib.LaidTab
import Derived.Below
import Derived.Sort.Grow
set_option linter.unusedVariables false
set_option linter.unusedSimpArgs false
set_option linter.unusedSectionVars false
namespace Go.AW
open List
open Go.RowKit
open Go.RowKit (Below)
open Go.Sort (Holds putRow grow mapBlock onCells putCells)
section
variable {P : Program} {N : Nat} {Q : cQ_} {k : List Fr} {t : Nat → AV} {h : List Row}
structure ExC (P : Program) (N : Nat) (Q : cQ_) (v : AV) (a b : LC) (k : List Fr) (t : Nat → AV) (h : List Row) : Prop where
 out : match v with | .val (.bool q) => (q = true → Ex P N Q a k t h) ∧ (q = false → Ex P N Q b k t h) | _ => False
theorem or_ (c : Operand) (a b : LC) : Ex P N Q (.cond c a b) k t h = ExC P N Q (aJ_ t c) a b k t h := by
 rw [ab_]
 exact propext ⟨fun q => ⟨q⟩, fun q => q.out⟩
theorem gb_ (a b : LC) : ExC P N Q (.val (.bool true)) a b k t h = Ex P N Q a k t h :=
 propext ⟨fun q => q.out.1 rfl, fun q => ⟨⟨fun _ => q, fun e => (by cases e)⟩⟩⟩
theorem fS_ (a b : LC) : ExC P N Q (.val (.bool false)) a b k t h = Ex P N Q b k t h :=
 propext ⟨fun q => q.out.2 rfl, fun q => ⟨⟨fun e => (by cases e), fun _ => q⟩⟩⟩
theorem cE_ {q : Bool} {a b : LC} (h1 : q = true → Ex P N Q a k t h) (h2 : q = false → Ex P N Q b k t h) : ExC P N Q (.val (.bool q)) a b k t h := ⟨⟨h1, h2⟩⟩
theorem cs_ {q : Bool} {a b : LC} (h1 : q = true → Ex P N Q b k t h) (h2 : q = false → Ex P N Q a k t h) : ExC P N Q (.val (.bool (!q))) a b k t h :=
 ⟨⟨fun e => h2 (by simpa using e), fun e => h1 (by simpa using e)⟩⟩
theorem df_ {q : Bool} {d : Option Nat} {op : LOp} {l : List LI} (h1 : q = true → ExG P N Q (some true) d op l k t h) (h2 : q = false → ExG P N Q (some false) d op l k t h) : ExG P N Q (some q) d op l k t h := by
 cases q
 ·exact h2 rfl
 ·exact h1 rfl
theorem c2_ {q : Bool} {d : Option Nat} {op : LOp} {l : List LI} (h1 : q = true → ExG P N Q (some false) d op l k t h) (h2 : q = false → ExG P N Q (some true) d op l k t h) : ExG P N Q (some (!q)) d op l k t h := by
 cases q
 ·exact h2 rfl
 ·exact h1 rfl
theorem fg_ {q : Bool} {d : Option Nat} {op : LOp} {l : List LI} (e : q = true) (h1 : q = true → ExG P N Q (some true) d op l k t h) : ExG P N Q (some q) d op l k t h := by subst e; exact h1 rfl
theorem fr_ {q : Bool} {d : Option Nat} {op : LOp} {l : List LI} (e : q = false) (h1 : q = false → ExG P N Q (some false) d op l k t h) : ExG P N Q (some q) d op l k t h := by subst e; exact h1 rfl
theorem eA_ {q : Bool} {d : Option Nat} {op : LOp} {l : List LI} (e : q = true) (h1 : q = true → ExG P N Q (some false) d op l k t h) : ExG P N Q (some (!q)) d op l k t h := by subst e; exact h1 rfl
theorem eG_ {q : Bool} {d : Option Nat} {op : LOp} {l : List LI} (e : q = false) (h1 : q = false → ExG P N Q (some true) d op l k t h) : ExG P N Q (some (!q)) d op l k t h := by subst e; exact h1 rfl
theorem eq_ {q : Bool} {a b : LC} (e : q = true) (h1 : q = true → Ex P N Q a k t h) : ExC P N Q (.val (.bool (q))) a b k t h := by subst e; exact (gb_ a b).symm ▸ h1 rfl
theorem ep_ {q : Bool} {a b : LC} (e : q = false) (h1 : q = false → Ex P N Q b k t h) : ExC P N Q (.val (.bool (q))) a b k t h := by subst e; exact (fS_ a b).symm ▸ h1 rfl
theorem dP_ {q : Bool} {a b : LC} (e : q = true) (h1 : q = true → Ex P N Q b k t h) : ExC P N Q (.val (.bool (!q))) a b k t h := by subst e; exact (fS_ a b).symm ▸ h1 rfl
theorem dK_ {q : Bool} {a b : LC} (e : q = false) (h1 : q = false → Ex P N Q a k t h) : ExC P N Q (.val (.bool (!q))) a b k t h := by subst e; exact (gb_ a b).symm ▸ h1 rfl
end
def kv_ (s : ByteArray) : List Int := s.data.toList.map fun b => (b.toNat : Int)
theorem i6_ (s : ByteArray) : (kv_ s).length = s.size := by
 unfold kv_; rw [length_map, Array.length_toList]; rfl
theorem qj_ {s : ByteArray} {i : Nat} (h : i < s.size) : s[i]? = some s[i] := getElem?_pos s i h
theorem sE_ {s : ByteArray} {i : Nat} (h : i < s.size) : ((s[i]).toNat : Int) = (kv_ s)[i]'(by rw [i6_]; exact h) := by
 simp only [kv_, getElem_map, Array.getElem_toList]; rfl
theorem wM_ (k : Nat) : ((k : Int) = 0) = (k = 0) := by simp
theorem uE_ (k : Nat) : ((0 : Int) < (k : Int)) = (0 < k) := by simp
theorem ku_ (k : Nat) : ((k : Int) - 1).toNat = k - 1 := by omega
theorem b2_ {h l : List Row} {i : Nat} {r : Row} (e : h[i]? = some r) : (h ++ l)[i]? = some r := by
 have := (List.getElem?_eq_some_iff.1 e).1
 rw [getElem?_append_left this, e]
theorem iV_ {k : Nat} (h : 0 < k) : (0 ≤ (k : Int) - 1) = True := by
 apply eq_true; omega
attribute [go_sem] or_ gb_ fS_ Go.undef bV_ eN_ Nat.zero_le qj_ sE_ wM_ uE_ ku_ af_ iV_
structure ExP (P : Program) (N : Nat) (Q : cQ_) (pre todo : List LI) (chain : List (LI × List LI)) (k : List Fr) (t : Nat → AV) (h : List Row) : Prop where
 out : et_ h todo t fun T => holds T h pre ∧ ej_ P chain T h (exK P N Q k .normal)
structure kI_ (P : Program) (N : Nat) (Q : cQ_) (chain : List (LI × List LI)) (k : List Fr) (t : Nat → AV) (h : List Row) : Prop where
 out : ej_ P chain t h (exK P N Q k .normal)
structure AfC (P : Program) (N : Nat) (Q : cQ_) (d : Option Nat) (loose : List LI) (chain : List (LI × List LI)) (k : List Fr) (t : Nat → AV) (v : AV) (h : List Row) : Prop where
 out : holds (put t d v) h loose ∧ ej_ P chain (put t d v) h (exK P N Q k .normal)
structure Hol (T : Nat → AV) (h : List Row) (l : List LI) : Prop where
 out : holds T h l
def gU_ (t : Nat → AV) (h : List Row) (K : AV → Prop) (op : LOp) : Prop := match aC_ t h op with | some v => K v | none => False
structure AfP (P : Program) (N : Nat) (Q : cQ_) (pre : List LI) (d : Option Nat) (todo : List LI) (chain : List (LI × List LI)) (k : List Fr) (t : Nat → AV) (h : List Row) (v : AV) : Prop where
 out : et_ h todo (put t d v) fun T => holds T h pre ∧ ej_ P chain T h (exK P N Q k .normal)
section
variable {P : Program} {N : Nat} {Q : cQ_} {k : List Fr} {t : Nat → AV} {h : List Row}
theorem qx_ (pre : List LI) (chain : List (LI × List LI)) : Ex P N Q (.gops pre chain) k t h = ExP P N Q pre pre chain k t h := propext ⟨fun q => ⟨q.out⟩, fun q => ⟨q.out⟩⟩
theorem p6_ (pre : List LI) (chain : List (LI × List LI)) : ExP P N Q pre [] chain k t h = (Hol t h pre ∧ kI_ P N Q chain k t h) :=
 propext ⟨fun q => ⟨⟨q.out.1⟩, ⟨q.out.2⟩⟩, fun q => ⟨⟨q.1.out, q.2.out⟩⟩⟩
theorem nh_ (pre : List LI) (d : Option Nat) (op : LOp) (r : List LI) (chain : List (LI × List LI)) : ExP P N Q pre (⟨d, none, op⟩ :: r) chain k t h = gU_ t h (AfP P N Q pre d r chain k t h) op := by
 unfold gU_
 cases hv : aC_ t h op with
 | none =>
  refine propext ⟨fun q => ?_, fun q => q.elim⟩
  have := q.out
  unfold et_ at this
  simp only [hv] at this
 | some v =>
  refine propext ⟨fun q => ⟨?_⟩, fun q => ⟨?_⟩⟩
  ·have := q.out
   unfold et_ at this
   simp only [hv] at this
   exact this
  ·unfold et_
   simp only [hv]
   exact q.out
theorem s7_ (pre : List LI) (d : Option Nat) (r : List LI) (chain : List (LI × List LI)) (v : AV) : AfP P N Q pre d r chain k t h v = ExP P N Q pre r chain k (put t d v) h := propext ⟨fun q => ⟨q.out⟩, fun q => ⟨q.out⟩⟩
theorem qn_ : Hol t h [] = True := propext ⟨fun _ => trivial, fun _ => ⟨trivial⟩⟩
theorem oe_ (d : Nat) (op : LOp) (r : List LI) : Hol t h (⟨some d, none, op⟩ :: r) = (gU_ t h (fun v => v = t d) op ∧ Hol t h r) := by
 refine propext ⟨fun q => ?_, fun q => ⟨?_⟩⟩
 ·have := q.out
  unfold holds at this
  refine ⟨?_, ⟨this.2⟩⟩
  unfold gU_
  rw [this.1]
 ·unfold holds
  refine ⟨?_, q.2.out⟩
  have := q.1
  unfold gU_ at this
  simp only
  split at this
  ·rename_i v hv; rw [hv, this]
  ·exact this.elim
theorem n3_ : kI_ P N Q [] k t h = ExK P N Q k .normal t h := propext ⟨fun q => ⟨q.out⟩, fun q => ⟨q.out⟩⟩
theorem qh_ (d : Option Nat) (loose : List LI) (chain : List (LI × List LI)) : AfC P N Q d loose chain k t = fun v h => holds (put t d v) h loose ∧ ej_ P chain (put t d v) h (exK P N Q k .normal) :=
 funext fun _ => funext fun _ => propext ⟨fun q => q.out, fun q => ⟨q⟩⟩
theorem lR_ (d : Option Nat) (op : LOp) (loose : List LI) (r : List (LI × List LI)) : kI_ P N Q ((⟨d, none, op⟩, loose) :: r) k t h = bl_ P t h (AfC P N Q d loose r k t) op := by
 rw [qh_]; exact propext ⟨fun q => q.out, fun q => ⟨q⟩⟩
theorem rq_ (d : Option Nat) (loose : List LI) (r : List (LI × List LI)) (v : AV) : AfC P N Q d loose r k t v h = (Hol (put t d v) h loose ∧ kI_ P N Q r k (put t d v) h) :=
 propext ⟨fun q => ⟨⟨q.out.1⟩, ⟨q.out.2⟩⟩, fun q => ⟨⟨q.1.out, q.2.out⟩⟩⟩
end
attribute [go_sem] qx_ p6_ nh_ s7_ qn_ oe_ n3_ lR_ rq_ gU_
theorem ao_.below {S : Sit} {h : List Row} {w w' : World} (m : ao_ S h w) (b : Below w.heap.size w w') : ao_ S h w' := by
 refine ⟨fun k c e => ?_, m.len, fun l i r q1 q2 => ?_, m.one⟩
 ·rw [b.block k (m.immLt e)]; exact m.imm k c e
 ·obtain ⟨k1, k2, k3, k4⟩ := m.rows l i r q1 q2
  refine ⟨k1, k2, k3, ?_⟩
  cases hb : i.blk with
  | none => rw [hb] at k4; exact k4
  | some k =>
   rw [hb] at k4
   exact ⟨k4.1, k4.2.le (.refl S) (b.block k (m.ownLt ⟨l, i, q1, hb⟩))⟩
theorem Step.below {S : Sit} {w w' : World} (b : Below w.heap.size w w') : Step S w S w' :=
 ⟨.refl S, b.os, b.tape, b.output, b.size, fun k hk _ => b.block k hk, fun _ q => .inl q, fun _ _ q => .inl q⟩
def bb_ (R : AV → AV → List Nat → Prop) : List AV → List AV → List Nat → Prop
 | [], ds, fs => ds = [] ∧ fs = []
 | c :: cs, ds, fs => ∃ d ds' f f', ds = d :: ds' ∧ fs = f ++ f' ∧ R c d f ∧ bb_ R cs ds' f'
def bg_ (R : AV → AV → List Nat → Prop) : List (List AV) → List (List AV) → List Nat → Prop
 | [], ds, fs => ds = [] ∧ fs = []
 | e :: es, ds, fs => ∃ d ds' f f', ds = d :: ds' ∧ fs = f ++ f' ∧ bb_ R e d f ∧ bg_ R es ds' f'
def Own (H : List Row) : Nat → AV → AV → List Nat → Prop
 | 0, _, _, _ => False
 | n + 1, a, r, fs =>
  match a with
  | .val v => fs = [] ∧ (r = .val v ∨ (v = .slice none 0 0 ∧ ∃ sz, r = .list 0 sz []))
  | .own l k => ∃ row es f, H[l]? = some row ∧ row.es.length = k ∧ bg_ (Own H n) row.es es f ∧ r = .list 0 row.sz es ∧ fs = l :: f
  | .sub l k lo hi => ∃ row es f, H[l]? = some row ∧ row.es.length = k ∧ bg_ (Own H n) row.es es f ∧ r = .list 0 row.sz ((es.take hi).drop lo) ∧ fs = l :: f
  | .agg cs => ∃ ds, bb_ (Own H n) cs ds fs ∧ r = .agg ds
  | .tup cs => ∃ ds, bb_ (Own H n) cs ds fs ∧ r = .tup ds
  | _ => False
theorem bb_.mono {R R' : AV → AV → List Nat → Prop} : ∀ {cs ds : List AV} {fs : List Nat}, (∀ a r f, (∀ l ∈ f, l ∈ fs) → R a r f → R' a r f) → bb_ R cs ds fs → bb_ R' cs ds fs
 | [], _, _, _, h => h
 | c :: cs, ds, fs, hm, h => by
  obtain ⟨d, ds', f, f', e1, e2, h1, h2⟩ := h
  subst e2
  exact ⟨d, ds', f, f', e1, rfl, hm _ _ _ (fun l hl => mem_append_left _ hl) h1, bb_.mono (fun a r g hg => hm a r g fun l hl => mem_append_right _ (hg l hl)) h2⟩
theorem bg_.mono {R R' : AV → AV → List Nat → Prop} : ∀ {cs ds : List (List AV)} {fs : List Nat}, (∀ a r f, (∀ l ∈ f, l ∈ fs) → R a r f → R' a r f) → bg_ R cs ds fs → bg_ R' cs ds fs
 | [], _, _, _, h => h
 | c :: cs, ds, fs, hm, h => by
  obtain ⟨d, ds', f, f', e1, e2, h1, h2⟩ := h
  subst e2
  exact ⟨d, ds', f, f', e1, rfl, bb_.mono (fun a r g hg => hm a r g fun l hl => mem_append_left _ (hg l hl)) h1, bg_.mono (fun a r g hg => hm a r g fun l hl => mem_append_right _ (hg l hl)) h2⟩
theorem Own.keep {H H' : List Row} : ∀ {n : Nat} {a r : AV} {fs : List Nat}, (∀ l ∈ fs, H'[l]? = H[l]?) → Own H n a r fs → Own H' n a r fs
 | 0, _, _, _, _, h => h
 | n + 1, a, r, fs, hk, h => by
  cases a with
  | val v => exact h
  | own l k =>
   obtain ⟨row, es, f, h1, h2, h3, h4, h5⟩ := h
   subst h5
   exact ⟨row, es, f, by rw [hk l (by simp)]; exact h1, h2, bg_.mono (fun a r g hg ho => Own.keep (fun l hl => hk l (mem_cons_of_mem _ (hg l hl))) ho) h3, h4, rfl⟩
  | sub l k lo hi =>
   obtain ⟨row, es, f, h1, h2, h3, h4, h5⟩ := h
   subst h5
   exact ⟨row, es, f, by rw [hk l (by simp)]; exact h1, h2, bg_.mono (fun a r g hg ho => Own.keep (fun l hl => hk l (mem_cons_of_mem _ (hg l hl))) ho) h3, h4, rfl⟩
  | agg cs =>
   obtain ⟨ds, h1, h2⟩ := h
   exact ⟨ds, bb_.mono (fun a r g hg ho => Own.keep (fun l hl => hk l (hg l hl)) ho) h1, h2⟩
  | tup cs =>
   obtain ⟨ds, h1, h2⟩ := h
   exact ⟨ds, bb_.mono (fun a r g hg ho => Own.keep (fun l hl => hk l (hg l hl)) ho) h1, h2⟩
  | _ => exact h.elim
theorem Own.more {H : List Row} : ∀ {n : Nat} {a r : AV} {fs : List Nat}, Own H n a r fs → Own H (n + 1) a r fs
 | 0, _, _, _, h => h.elim
 | n + 1, a, r, fs, h => by
  cases a with
  | val v => exact h
  | own l k =>
   obtain ⟨row, es, f, h1, h2, h3, h4, h5⟩ := h
   exact ⟨row, es, f, h1, h2, bg_.mono (fun a r g _ ho => Own.more ho) h3, h4, h5⟩
  | sub l k lo hi =>
   obtain ⟨row, es, f, h1, h2, h3, h4, h5⟩ := h
   exact ⟨row, es, f, h1, h2, bg_.mono (fun a r g _ ho => Own.more ho) h3, h4, h5⟩
  | agg cs =>
   obtain ⟨ds, h1, h2⟩ := h
   exact ⟨ds, bb_.mono (fun a r g _ ho => Own.more ho) h1, h2⟩
  | tup cs =>
   obtain ⟨ds, h1, h2⟩ := h
   exact ⟨ds, bb_.mono (fun a r g _ ho => Own.more ho) h1, h2⟩
  | _ => exact h.elim
theorem Own.up {H : List Row} {n m : Nat} {a r : AV} {fs : List Nat} (hm : n ≤ m) (h : Own H n a r fs) : Own H m a r fs := by
 induction hm with
 | refl => exact h
 | step _ ih => exact ih.more
theorem bb_.rep {S S' : Sit} {R : AV → AV → List Nat → Prop} (hone : ∀ a x r f, Rep S a x → R a r f → Rep S' r x) : ∀ {as : List AV} {xs : List Value} {rs : List AV} {fs : List Nat}, aj_ S as xs → bb_ R as rs fs → aj_ S' rs xs
 | [], xs, rs, fs, r, h => by
  obtain ⟨h1, _⟩ := h; subst h1
  simpa [aj_] using r
 | a :: as, xs, rs, fs, r, h => by
  obtain ⟨d, ds', f, f', e1, e2, h1, h2⟩ := h
  subst e1
  simp only [aj_] at r ⊢
  obtain ⟨v, q, e, r2, r3⟩ := r
  exact ⟨v, q, e, hone a v d f r2 h1, bb_.rep hone r3 h2⟩
theorem bb_.repPre {S S' : Sit} {R : AV → AV → List Nat → Prop} (hone : ∀ a x r f, Rep S a x → R a r f → Rep S' r x) : ∀ {as : List AV} {xs : List Value} {rs : List AV} {fs : List Nat}, aX_ S as xs → bb_ R as rs fs → aX_ S' rs xs ∧ rs.length = as.length
 | [], xs, rs, fs, r, h => by
  obtain ⟨h1, _⟩ := h; subst h1
  simp [aX_]
 | a :: as, xs, rs, fs, r, h => by
  obtain ⟨d, ds', f, f', e1, e2, h1, h2⟩ := h
  subst e1
  simp only [aX_] at r ⊢
  obtain ⟨v, q, e, r2, r3⟩ := r
  have := bb_.repPre hone r3 h2
  exact ⟨⟨v, q, e, hone a v d f r2 h1, this.1⟩, by simp [this.2]⟩
theorem bg_.rep {S S' : Sit} {R : AV → AV → List Nat → Prop} (hone : ∀ a x r f, Rep S a x → R a r f → Rep S' r x) : ∀ {es : List (List AV)} {xs : List Value} {rs : List (List AV)} {fs : List Nat}, aO_ S es xs → bg_ R es rs fs →
 aO_ S' rs xs ∧ rs.length = es.length ∧ ∀ sz, (∀ e ∈ es, e.length = sz) → ∀ e ∈ rs, e.length = sz
 | [], xs, rs, fs, r, h => by
  obtain ⟨h1, _⟩ := h; subst h1
  simp [aO_]
 | d :: es, xs, rs, fs, r, h => by
  obtain ⟨d', ds', f, f', e1, e2, h1, h2⟩ := h
  subst e1
  simp only [aO_] at r ⊢
  have p1 := bb_.repPre hone r.1 h1
  have p2 := bg_.rep hone r.2 h2
  refine ⟨⟨p1.1, by rw [p1.2]; exact p2.1⟩, by simp [p2.2.1], fun sz hsz e he => ?_⟩
  rcases mem_cons.1 he with q | q
  ·subst q; rw [p1.2]; exact hsz d (by simp)
  ·exact p2.2.2 sz (fun e he => hsz e (by simp [he])) e q
theorem bg_.len {R : AV → AV → List Nat → Prop} : ∀ {es rs : List (List AV)} {fs : List Nat}, bg_ R es rs fs → rs.length = es.length
 | [], rs, fs, h => by obtain ⟨h, _⟩ := h; subst h; rfl
 | e :: es, rs, fs, h => by
  obtain ⟨d, ds', f, f', e1, e2, h1, h2⟩ := h
  subst e1
  simp [bg_.len h2]
theorem Own.rep {S : Sit} {h : List Row} {w : World} (m : ao_ S h w) : ∀ (n : Nat) (a : AV) (x : Value) (r : AV) (fs : List Nat), Rep S a x → Own h n a r fs → Rep (S.shut w) r x := by
 intro n
 induction n with
 | zero => intro a x r fs _ e; exact e.elim
 | succ n ih =>
  intro a x r fs hr e
  cases a with
  | val v =>
   obtain ⟨_, e | ⟨e1, sz, e2⟩⟩ := e
   ·subst e; simpa [Rep] using hr
   ·subst e1 e2
    simp only [Rep] at hr ⊢
    exact .inl ⟨trivial, trivial, _, _, hr⟩
  | agg cs =>
   obtain ⟨ds, e1, e2⟩ := e
   subst e2
   simp only [Rep] at hr ⊢
   obtain ⟨vs, e3, hr⟩ := hr
   exact ⟨vs, e3, bb_.rep ih hr e1⟩
  | tup cs =>
   obtain ⟨ds, e1, e2⟩ := e
   subst e2
   simp only [Rep] at hr ⊢
   obtain ⟨vs, e3, hr⟩ := hr
   exact ⟨vs, e3, bb_.rep ih hr e1⟩
  | own l k =>
   obtain ⟨row, es, f, hl, hlen, e1, e2, _⟩ := e
   subst e2
   simp only [Rep] at hr
   obtain ⟨_, i, q1, q2, q3⟩ := hr
   obtain ⟨k1, k2, k3, k4⟩ := m.rows l i row q1 hl
   have hx := q3 (by omega)
   cases hb : i.blk with
   | none =>
    rw [hb] at k4
    simp only [sliceAt, hb] at hx
    rw [k4.1] at e1
    obtain ⟨e1, _⟩ := e1; subst e1
    simp only [Rep]
    rcases hx with hx | ⟨_, p, hx⟩
    ·exact .inl ⟨trivial, trivial, _, _, hx⟩
    ·exact .inl ⟨trivial, trivial, _, _, hx⟩
   | some b =>
    rw [hb] at k4
    simp only [sliceAt, hb, reduceCtorEq, false_and, or_false] at hx
    by_cases hne : row.es = []
    ·rw [hne] at e1 k1
     obtain ⟨e1, _⟩ := e1; subst e1
     simp only [Rep]
     rw [k1] at hx
     exact .inl ⟨trivial, trivial, _, _, hx⟩
    obtain ⟨_, c, _, j2, j3, j4, j5, j6⟩ := k4.2.cells (.inl hne)
    have p := bg_.rep ih j3 e1
    simp only [Rep]
    right
    have hown : S.ownsB b = true := cJ_.2 ⟨l, i, q1, hb⟩
    refine ⟨b, 0, i.cap, c, by rw [hx, p.2.1, k1], by rw [p.2.1, ← k1]; exact j5, ?_, p.2.2 _ k3, .inl trivial, ?_, by simpa [Sit.shut, Sit.still] using p.1⟩
    ·simp [Sit.shut, hown, j2]
    ·rw [p.2.1, j4, ← k1, ← k2]
     simpa using Nat.mul_le_mul_right _ j5
  | sub l k lo hi =>
   obtain ⟨row, es, f, hl, hlen, e1, e2, _⟩ := e
   subst e2
   simp only [Rep] at hr
   obtain ⟨_, i, q1, q2, q3⟩ := hr
   obtain ⟨k1, k2, k3, k4⟩ := m.rows l i row q1 hl
   obtain ⟨g1, g2, g3⟩ := q3 (by omega)
   have hesl : es.length = row.es.length := bg_.len e1
   have hlen2 : ((es.take hi).drop lo).length = hi - lo := by simp; omega
   by_cases hz : hi - lo = 0
   ·have hnil : (es.take hi).drop lo = [] := eq_nil_of_length_eq_zero (by omega)
    rw [hnil]
    simp only [Rep]
    rcases g3 with ⟨_, p, q⟩ | ⟨b, off, _, q, _⟩
    ·exact .inl ⟨trivial, trivial, _, _, q⟩
    ·rw [hz] at q; exact .inl ⟨trivial, trivial, _, _, q⟩
   ·have hne : row.es ≠ [] := by intro q; rw [q] at hlen; simp at hlen; omega
    rcases g3 with ⟨hb, p, q⟩ | ⟨b, off, hb, q, hoff⟩
    ·rw [hb] at k4; exact absurd k4.1 hne
    ·rw [hb] at k4
     obtain ⟨_, c, _, j2, j3, j4, j5, j6⟩ := k4.2.cells (.inl hne)
     rw [hoff (by omega)] at q
     have p := bg_.rep ih j3 e1
     have p3 := p.2.2 _ k3
     have hd := aO_.drop (aO_.take (k := hi) p.1) (sz := row.sz) (k := lo) (fun x hx => p3 x (mem_of_mem_take hx))
     simp only [Rep]
     right
     have hown : S.ownsB b = true := cJ_.2 ⟨l, i, q1, hb⟩
     refine ⟨b, lo * i.sz, i.cap - lo, c, by rw [q, hlen2], by rw [hlen2]; omega, ?_, fun x hx => p3 x (mem_of_mem_take (mem_of_mem_drop hx)), .inl trivial, ?_, ?_⟩
     ·simp [Sit.shut, hown, j2]
     ·rw [hlen2, j4, ← k2, ← Nat.add_mul]
      exact Nat.mul_le_mul_right _ (by omega)
     ·rw [k2]; simpa [Sit.shut, Sit.still] using hd
  | _ => exact e.elim
def cP_ (H : List Row) (a r : AV) : Prop := (a = r ∧ a.plain = true) ∨ ∃ n fs, Own H n a r fs
def co_ (H : List Row) : List AV → List AV → Prop
 | [], rs => rs = []
 | a :: as, rs => ∃ r rs', rs = r :: rs' ∧ cP_ H a r ∧ co_ H as rs'
theorem co_.rep {S : Sit} {H : List Row} {w : World} (m : ao_ S H w) : ∀ {as rs : List AV} {xs : List Value}, co_ H as rs → aj_ S as xs → aj_ (S.shut w) rs xs
 | [], rs, xs, h, r => by subst h; simpa [aj_] using r
 | a :: as, rs, xs, h, r => by
  obtain ⟨d, ds, e, h1, h2⟩ := h
  subst e
  simp only [aj_] at r ⊢
  obtain ⟨v, q, e, r1, r2⟩ := r
  refine ⟨v, q, e, ?_, co_.rep m h2 r2⟩
  rcases h1 with ⟨h1, hp⟩ | ⟨n, fs, h1⟩
  ·subst h1; exact Rep.up (eu_ m) _ _ (eY_ hp r1)
  ·exact Own.rep m n a v d fs r1 h1
theorem ao_.shut {S : Sit} {H : List Row} {w : World} (m : ao_ S H w) : ∀ b c, (S.shut w).imm b = some c → ∃ E fr, w.heap[b]? = some (.cells c E fr) := by
 intro b c q
 simp only [Sit.shut] at q
 split at q
 ·split at q
  ·rename_i c' E fr hb
   simp at q; subst q
   exact ⟨E, fr, hb⟩
  ·simp at q
 ·exact m.imm b c q
theorem cB_.shut {P : Program} {S : Sit} {H : List Row} {w : World} (m : ao_ S H w) (g : cB_ P S) : cB_ P (S.shut w) := cB_.up (eu_ m) (show cB_ P S.still from g)
theorem nd_ {P : Program} {f : FuncId} {as rs : List AV} {H : List Row} {v : Value} (hc : ∀ h, aa_ P f rs h (.val v)) (ha : co_ H as rs) {K : AV → List Row → Prop} (hk : K (.val v) H) : callSem P f as H K := by
 intro S w vals hm hgl hr
 have hm0 : ao_ (S.shut w) [] w := ⟨hm.shut, rfl, by simp [Sit.shut], by simp [Sit.shut]⟩
 refine (hc [] (fun r _ => r = .val v) rfl (S.shut w) w vals hm0 (hgl.shut hm) (ha.rep hm hr)).mono ?_
 rintro e w' ⟨v', av, S1, h1, rfl, st, hm1, rv, rfl⟩
 simp only [Rep] at rv
 subst rv
 have b : Below w.heap.size w w' := ⟨st.os, st.tape, st.output, st.size, fun k hk => st.block k hk (by rintro ⟨l, i, q, _⟩; simp [Sit.shut] at q)⟩
 exact ⟨v', .val v', S, H, rfl, Step.below b, hm.below b, by simp [Rep], hk⟩
theorem nf_ {S : Sit} {H : List Row} {w : World} (m : ao_ S H w) {n : Nat} : ∀ {as rs : List AV} {xs : List Value}, as.mapM (resolve H n) = some rs → aj_ S as xs → aj_ (S.shut w) rs xs :=
 fun h r => cU_ (fun a x r' h1 h2 => eU_ m n a x r' h1 h2) r h
theorem frozen {P : Program} {f : FuncId} {as rs : List AV} {H : List Row} {v : Value} {n : Nat} (hc : ∀ h, aa_ P f rs h (.val v)) (ha : as.mapM (resolve H n) = some rs) : aa_ P f as H (.val v) := by
 intro K hk S w vals hm hgl hr
 have hm0 : ao_ (S.shut w) [] w := ⟨hm.shut, rfl, by simp [Sit.shut], by simp [Sit.shut]⟩
 refine (hc [] (fun r _ => r = .val v) rfl (S.shut w) w vals hm0 (hgl.shut hm) (nf_ hm ha hr)).mono ?_
 rintro e w' ⟨v', av, S1, h1, rfl, st, hm1, rv, rfl⟩
 simp only [Rep] at rv
 subst rv
 have b : Below w.heap.size w w' := ⟨st.os, st.tape, st.output, st.size, fun k hk => st.block k hk (by rintro ⟨l, i, q, _⟩; simp [Sit.shut] at q)⟩
 exact ⟨v', .val v', S, H, rfl, Step.below b, hm.below b, by simp [Rep], hk⟩
structure hV_ (base : Nat) (H : List Row) (a r : AV) : Prop where
 out : ∃ n fs, Own H n a r fs ∧ fs.Nodup ∧ ∀ l ∈ fs, base ≤ l
def hs_ (P : Program) (f : FuncId) (args : List AV) (r : AV) (Q : AV → Prop) : Prop :=
 ∀ (h : List Row) (K : AV → List Row → Prop), (∀ av hn, hV_ h.length (h ++ hn) av r → Q av → K av (h ++ hn)) → callSem P f args h K
theorem bb_.inner {H : List Row} {R : AV → AV → List Nat → Prop} (hone : ∀ a r f, R a r f → ∀ l ∈ f, ∃ row m es g, H[l]? = some row ∧ bg_ (Own H m) row.es es g ∧ ∀ x ∈ g, x ∈ f) : ∀ {as rs : List AV} {fs : List Nat}, bb_ R as rs fs → ∀ l ∈ fs, ∃ row m es g, H[l]? = some row ∧ bg_ (Own H m) row.es es g ∧ ∀ x ∈ g, x ∈ fs
 | [], rs, fs, h, l, hl => by obtain ⟨_, h⟩ := h; subst h; simp at hl
 | a :: as, rs, fs, h, l, hl => by
  obtain ⟨d, ds', f, f', e1, e2, h1, h2⟩ := h
  subst e2
  rcases mem_append.1 hl with q | q
  ·obtain ⟨row, m, es, g, q1, q2, q3⟩ := hone a d f h1 l q
   exact ⟨row, m, es, g, q1, q2, fun x hx => mem_append_left _ (q3 x hx)⟩
  ·obtain ⟨row, m, es, g, q1, q2, q3⟩ := bb_.inner hone h2 l q
   exact ⟨row, m, es, g, q1, q2, fun x hx => mem_append_right _ (q3 x hx)⟩
theorem bg_.inner {H : List Row} {R : AV → AV → List Nat → Prop} (hone : ∀ a r f, R a r f → ∀ l ∈ f, ∃ row m es g, H[l]? = some row ∧ bg_ (Own H m) row.es es g ∧ ∀ x ∈ g, x ∈ f) : ∀ {as rs : List (List AV)} {fs : List Nat}, bg_ R as rs fs → ∀ l ∈ fs, ∃ row m es g, H[l]? = some row ∧ bg_ (Own H m) row.es es g ∧ ∀ x ∈ g, x ∈ fs
 | [], rs, fs, h, l, hl => by obtain ⟨_, h⟩ := h; subst h; simp at hl
 | a :: as, rs, fs, h, l, hl => by
  obtain ⟨d, ds', f, f', e1, e2, h1, h2⟩ := h
  subst e2
  rcases mem_append.1 hl with q | q
  ·obtain ⟨row, m, es, g, q1, q2, q3⟩ := bb_.inner hone h1 l q
   exact ⟨row, m, es, g, q1, q2, fun x hx => mem_append_left _ (q3 x hx)⟩
  ·obtain ⟨row, m, es, g, q1, q2, q3⟩ := bg_.inner hone h2 l q
   exact ⟨row, m, es, g, q1, q2, fun x hx => mem_append_right _ (q3 x hx)⟩
theorem Own.inner {H : List Row} : ∀ {n : Nat} {a r : AV} {fs : List Nat}, Own H n a r fs → ∀ l ∈ fs, ∃ row m es g, H[l]? = some row ∧ bg_ (Own H m) row.es es g ∧ ∀ x ∈ g, x ∈ fs
 | 0, _, _, _, h => h.elim
 | n + 1, a, r, fs, h => by
  intro l hl
  cases a with
  | val v => obtain ⟨h, _⟩ := h; subst h; simp at hl
  | own l' k =>
   obtain ⟨row, es, f, h1, h2, h3, h4, h5⟩ := h
   subst h5
   rcases mem_cons.1 hl with q | q
   ·subst q; exact ⟨row, n, es, f, h1, h3, fun x hx => mem_cons_of_mem _ hx⟩
   ·obtain ⟨row', m, es', g, q1, q2, q3⟩ := bg_.inner (fun a r f ho => Own.inner ho) h3 l q
    exact ⟨row', m, es', g, q1, q2, fun x hx => mem_cons_of_mem _ (q3 x hx)⟩
  | sub l' k lo hi =>
   obtain ⟨row, es, f, h1, h2, h3, h4, h5⟩ := h
   subst h5
   rcases mem_cons.1 hl with q | q
   ·subst q; exact ⟨row, n, es, f, h1, h3, fun x hx => mem_cons_of_mem _ hx⟩
   ·obtain ⟨row', m, es', g, q1, q2, q3⟩ := bg_.inner (fun a r f ho => Own.inner ho) h3 l q
    exact ⟨row', m, es', g, q1, q2, fun x hx => mem_cons_of_mem _ (q3 x hx)⟩
  | agg cs =>
   obtain ⟨ds, h1, h2⟩ := h
   exact bb_.inner (fun a r f ho => Own.inner ho) h1 l hl
  | tup cs =>
   obtain ⟨ds, h1, h2⟩ := h
   exact bb_.inner (fun a r f ho => Own.inner ho) h1 l hl
  | _ => exact h.elim
theorem bb_.trans {S S' : Sit} {R : AV → AV → List Nat → Prop} : ∀ {as rs : List AV} {fs : List Nat} {xs : List Value}, (∀ a x r f, (∀ l ∈ f, l ∈ fs) → R a r f → Rep S a x → Rep S' a x) → bb_ R as rs fs → aj_ S as xs → aj_ S' as xs
 | [], rs, fs, xs, _, h, r => by simpa [aj_] using r
 | a :: as, rs, fs, xs, hone, h, r => by
  obtain ⟨d, ds', f, f', e1, e2, h1, h2⟩ := h
  subst e2
  simp only [aj_] at r ⊢
  obtain ⟨v, q, e, r2, r3⟩ := r
  exact ⟨v, q, e, hone a v d f (fun l hl => mem_append_left _ hl) h1 r2, bb_.trans (fun a x r g hg => hone a x r g fun l hl => mem_append_right _ (hg l hl)) h2 r3⟩
theorem bb_.transPre {S S' : Sit} {R : AV → AV → List Nat → Prop} : ∀ {as rs : List AV} {fs : List Nat} {xs : List Value}, (∀ a x r f, (∀ l ∈ f, l ∈ fs) → R a r f → Rep S a x → Rep S' a x) → bb_ R as rs fs → aX_ S as xs → aX_ S' as xs
 | [], rs, fs, xs, _, h, r => by simp [aX_]
 | a :: as, rs, fs, xs, hone, h, r => by
  obtain ⟨d, ds', f, f', e1, e2, h1, h2⟩ := h
  subst e2
  simp only [aX_] at r ⊢
  obtain ⟨v, q, e, r2, r3⟩ := r
  exact ⟨v, q, e, hone a v d f (fun l hl => mem_append_left _ hl) h1 r2, bb_.transPre (fun a x r g hg => hone a x r g fun l hl => mem_append_right _ (hg l hl)) h2 r3⟩
theorem bg_.trans {S S' : Sit} {R : AV → AV → List Nat → Prop} : ∀ {as rs : List (List AV)} {fs : List Nat} {xs : List Value}, (∀ a x r f, (∀ l ∈ f, l ∈ fs) → R a r f → Rep S a x → Rep S' a x) → bg_ R as rs fs → aO_ S as xs → aO_ S' as xs
 | [], rs, fs, xs, _, h, r => by simp [aO_]
 | a :: as, rs, fs, xs, hone, h, r => by
  obtain ⟨d, ds', f, f', e1, e2, h1, h2⟩ := h
  subst e2
  simp only [aO_] at r ⊢
  exact ⟨bb_.transPre (fun a x r g hg => hone a x r g fun l hl => mem_append_left _ (hg l hl)) h1 r.1, bg_.trans (fun a x r g hg => hone a x r g fun l hl => mem_append_right _ (hg l hl)) h2 r.2⟩
theorem Own.trans {S S' : Sit} {H : List Row} : ∀ {n : Nat} {a r : AV} {fs : List Nat} {x : Value}, (∀ l ∈ fs, S'.rows[l]? = S.rows[l]?) → Own H n a r fs → Rep S a x → Rep S' a x
 | 0, _, _, _, _, _, h, _ => h.elim
 | n + 1, a, r, fs, x, hk, h, hr => by
  cases a with
  | val v => simpa [Rep] using hr
  | own l k =>
   obtain ⟨row, es, f, h1, h2, h3, h4, h5⟩ := h
   subst h5
   simp only [Rep] at hr ⊢
   rw [hk l (by simp)]
   exact hr
  | sub l k lo hi =>
   obtain ⟨row, es, f, h1, h2, h3, h4, h5⟩ := h
   subst h5
   simp only [Rep] at hr ⊢
   rw [hk l (by simp)]
   exact hr
  | agg cs =>
   obtain ⟨ds, h1, h2⟩ := h
   simp only [Rep] at hr ⊢
   obtain ⟨vs, e, hr⟩ := hr
   exact ⟨vs, e, bb_.trans (fun a x r g hg ho hx => Own.trans (fun l hl => hk l (hg l hl)) ho hx) h1 hr⟩
  | tup cs =>
   obtain ⟨ds, h1, h2⟩ := h
   simp only [Rep] at hr ⊢
   obtain ⟨vs, e, hr⟩ := hr
   exact ⟨vs, e, bb_.trans (fun a x r g hg ho hx => Own.trans (fun l hl => hk l (hg l hl)) ho hx) h1 hr⟩
  | _ => exact h.elim
def txt (l : List UInt8) : ByteArray := ⟨l.toArray⟩
theorem mH_ (s : ByteArray) : s = txt s.data.toList := by cases s; rfl
theorem qp_ (l : List UInt8) : (⟨l.toArray⟩ : ByteArray) = txt l := rfl
theorem fl_ (l : List UInt8) : (txt l).size = l.length := by simp [txt, ByteArray.size]
theorem gc_ (l : List UInt8) : (txt l).data.toList = l := by simp [txt]
theorem jx_ (l : List UInt8) : (txt l).toList = l := by rw [eT_, gc_]
theorem p8_ (a b : List UInt8) : (txt a = txt b) = (a = b) := by
 apply propext; constructor
 ·intro h; have := congrArg (fun x => x.data.toList) h; simpa [gc_] using this
 ·intro h; rw [h]
theorem qt_ (l : List UInt8) (i : Nat) : (txt l)[i]? = l[i]? := by
 by_cases h : i < l.length
 ·rw [getElem?_pos (txt l) i (by rw [fl_]; exact h), getElem?_eq_getElem h]
  congr 1
 ·rw [getElem?_neg (txt l) i (by rw [fl_]; exact h), getElem?_eq_none (by omega)]
theorem i0_ (l : List UInt8) (i j : Nat) : (txt l).extract i j = txt ((l.take j).drop i) := by
 rw [mH_ ((txt l).extract i j)]
 congr 1
 rw [ByteArray.data_extract]
 simp [txt, extract_eq_drop_take', ]
theorem qb_ (a b : List UInt8) : txt a ++ txt b = txt (a ++ b) := by
 rw [mH_ (txt a ++ txt b)]
 congr 1
theorem m3_ (q : Bool) (a b : List UInt8) (h : a.length + b.length ≤ 9223372036854775807) : bR_ .add q (.val (.string (txt a))) (.val (.string (txt b))) = some (.val (.string (txt (a ++ b)))) := by
 simp only [bR_, binOp, Op.stringOp, fl_]
 have h' : ¬ (((a.length + b.length : Nat) : Int) > IntKind.i64.max) := by
  have : IntKind.i64.max = 9223372036854775807 := by decide
  rw [this]; omega
 rw [if_neg h', qb_]
 rfl
theorem p1_ (q : Bool) (a b : Int) (hb : b ≠ 0) : bR_ .quo q (.val (.int .i64 a)) (.val (.int .i64 b)) = some (.val (.int .i64 (IntKind.i64.wrap (a.tdiv b)))) := by
 have : bR_ .quo q (.val (.int .i64 a)) (.val (.int .i64 b)) = dv_ (Op.intDiv .quo .i64 a b) := rfl
 rw [this, Op.intDiv, if_neg hb]; rfl
theorem p3_ (q : Bool) (a b : Int) (hb : b ≠ 0) : bR_ .rem q (.val (.int .i64 a)) (.val (.int .i64 b)) = some (.val (.int .i64 (a.tmod b))) := by
 have : bR_ .rem q (.val (.int .i64 a)) (.val (.int .i64 b)) = dv_ (Op.intDiv .rem .i64 a b) := rfl
 rw [this, Op.intDiv, if_neg hb]; rfl
theorem nq_ (q : Bool) (a b : Int) : bR_ .sub q (.val (.int .u8 a)) (.val (.int .u8 b)) = some (.val (.int .u8 (IntKind.u8.wrap (a - b)))) := rfl
theorem kh_ {n : Int} (h1 : 0 ≤ n) (h2 : n ≤ 255) : IntKind.u8.wrap n = n := by
 rw [IntKind.wrap_u8]; omega
theorem nF_ {a b : Int} (h : 0 ≤ a) : a.tdiv b = a / b := Int.tdiv_eq_ediv_of_nonneg h
theorem nS_ {a b : Int} (h : 0 ≤ a) : a.tmod b = a % b := Int.tmod_eq_emod_of_nonneg h
theorem lv_ (b : UInt8) : dI_ [.val (.int .u8 b.toNat)] = some b := by
 simp [dI_]
theorem kt_ {n : Int} (h1 : 0 ≤ n) (h2 : n ≤ 255) : dI_ [.val (.int .u8 n)] = some (UInt8.ofNat n.toNat) := by
 simp only [dI_]
 have : ((UInt8.ofNat n.toNat).toNat : Int) = n := by
  rw [UInt8.toNat_ofNat']; omega
 rw [if_pos this]
theorem hH_ (l : List UInt8) (i : Nat) : (cW_ l)[i]? = (l[i]?).map fun b => [.val (.int .u8 b.toNat)] := by simp [cW_]
theorem hO_ (l : List UInt8) : (cW_ l).length = l.length := by simp [cW_]
theorem qA_ {α : Type} {a b : Nat} {x y : α} (h : a ≤ b) : (if a ≤ b then x else y) = x := if_pos h
theorem p9_ {α : Type} {a b : Int} {x y : α} (h : a ≤ b) : (if a ≤ b then x else y) = x := if_pos h
theorem ni_ {α : Type} {a b c d : Nat} {x y : α} (h : a ≤ b) (h2 : c ≤ d) : (if a ≤ b ∧ c ≤ d then x else y) = x := if_pos ⟨h, h2⟩
attribute [go_sem] getElem_cons_zero getElem_cons_succ
theorem qq_ {p : List AV → Prop} (x : List AV) : (∀ e ∈ [x], p e) = p x := by simp
theorem t8_ : List.range 1 = [0] := rfl
theorem qG_ : List.range 2 = [0, 1] := rfl
theorem rK_ : List.range 3 = [0, 1, 2] := rfl
section
variable {P : Program} {N : Nat} {Q : cQ_} {t : Nat → AV} {h : List Row}
end
theorem uV_ : List.range 0 = [] := rfl
attribute [go_sem] uV_ dc_ qq_ t8_ qG_ rK_ AV.flat mapM_cons
attribute [go_sem] qA_ p9_ ni_ qp_ fl_ gc_ jx_ p8_ qt_ i0_ m3_ p1_ p3_ qd_ nq_ kh_ nF_ nS_ lv_ kt_ hH_ hO_ uo_
def AV.solid : AV → Bool
 | .val _ => true
 | .tup cs => cs.all fun | .val _ => true | _ => false
 | _ => false
theorem gD_ {S S' : Sit} : ∀ {cs : List AV} {xs : List Value}, (cs.all fun | .val _ => true | _ => false) = true → aj_ S cs xs → aj_ S' cs xs
 | [], xs, _, r => by simpa [aj_] using r
 | c :: cs, xs, h, r => by
  simp only [all_cons, Bool.and_eq_true] at h
  simp only [aj_] at r ⊢
  obtain ⟨v, q, e, r1, r2⟩ := r
  refine ⟨v, q, e, ?_, gD_ h.2 r2⟩
  cases c with
  | val u => simpa [Rep] using r1
  | _ => simp at h
theorem kM_ {S S' : Sit} {a : AV} {x : Value} (h : a.solid = true) (r : Rep S a x) : Rep S' a x := by
 cases a with
 | val v => simpa [Rep] using r
 | tup cs =>
  simp only [Rep] at r ⊢
  obtain ⟨vs, e, r⟩ := r
  exact ⟨vs, e, gD_ h r⟩
 | _ => simp [AV.solid] at h
theorem pY_ {p : List AV → Prop} (x y : List AV) : (∀ e ∈ [x, y], p e) = (p x ∧ p y) := by simp
attribute [go_sem] pY_
def ed_ (zs : List Int) : List (List AV) := zs.map fun z => [.val (.int .i64 z)]
theorem jM_ (zs : List Int) : (ed_ zs).length = zs.length := by simp [ed_]
theorem jW_ (a b : List Int) : ed_ a ++ ed_ b = ed_ (a ++ b) := by simp [ed_]
theorem Own.val {H : List Row} {n : Nat} {a : AV} {v : Value} {fs : List Nat} (h : Own H n a (.val v) fs) : a = .val v ∧ fs = [] := by
 cases n with
 | zero => exact h.elim
 | succ n =>
  cases a with
  | val u =>
   obtain ⟨h1, h2 | ⟨_, _, h2⟩⟩ := h
   ·injection h2 with q; subst q; exact ⟨rfl, h1⟩
   ·cases h2
  | own l k => obtain ⟨_, _, _, _, _, _, q, _⟩ := h; cases q
  | sub l k lo hi => obtain ⟨_, _, _, _, _, _, q, _⟩ := h; cases q
  | agg cs => obtain ⟨_, _, q⟩ := h; cases q
  | tup cs => obtain ⟨_, _, q⟩ := h; cases q
  | _ => exact h.elim
theorem m6_ (out : List Int) (x : Int) : ed_ out ++ [[AV.val (Value.int .i64 x)]] = ed_ (out ++ [x]) := jW_ out [x]
theorem on_ {p : List AV → Prop} : (∀ e ∈ ([] : List (List AV)), p e) = True := by simp
attribute [go_sem] jM_ m6_ on_
inductive Sch where
 | int
 | str
 | bool
 | list (fs : List Sch)
def cc_ (g : List AV → Int → List AV × Int) : List (List AV) → Int → List (List AV) × Int
 | [], k => ([], k)
 | e :: es, k => ((g e k).1 :: (cc_ g es (g e k).2).1, (cc_ g es (g e k).2).2)
def dw_ (g : List AV → Int → Int) : List (List AV) → Int → Int
 | [], k => k
 | e :: es, k => if g e k < 0 then -1 else dw_ g es (g e k)
def cX_ (g : List AV → Nat) : List (List AV) → Nat
 | [] => 0
 | e :: es => g e + cX_ g es
section
variable (mt : Int → ByteArray)
mutual
def bG_ : Sch → AV → Int → AV × Int
 | .int, _, k => (.val (.int .i64 k), k + 1)
 | .str, _, k => (.val (.string (mt k)), k + 1)
 | .bool, _, k => (.val (.bool (decide (k % 3 = 0))), k + 1)
 | .list fs, .list tk sz es, k => (.list tk sz (cc_ (cu_ fs) es k).1, (cc_ (cu_ fs) es k).2)
 | .list _, a, k => (a, k)
def cu_ : List Sch → List AV → Int → List AV × Int
 | s :: ss, c :: cs, k => ((bG_ s c k).1 :: (cu_ ss cs (bG_ s c k).2).1, (cu_ ss cs (bG_ s c k).2).2)
 | _, cs, k => (cs, k)
end
mutual
def cS_ : Sch → AV → Int → Int
 | .int, .val (.int .i64 n), k => if n = k then k + 1 else -1
 | .str, .val (.string s), k => if s = mt k then k + 1 else -1
 | .bool, .val (.bool b), k => if b = decide (k % 3 = 0) then k + 1 else -1
 | .list fs, .list _ _ es, k => dw_ (fp_ fs) es k
 | _, _, _ => -1
def fp_ : List Sch → List AV → Int → Int
 | s :: ss, c :: cs, k => if cS_ s c k < 0 then -1 else fp_ ss cs (cS_ s c k)
 | _, _, k => k
end
end
mutual
def by_ : Sch → AV → Nat
 | .list fs, .list _ _ es => cX_ (c3_ fs) es
 | .list _, _ => 0
 | _, _ => 1
def c3_ : List Sch → List AV → Nat
 | s :: ss, c :: cs => by_ s c + c3_ ss cs
 | _, _ => 0
end
mutual
def cq_ : Sch → AV → Prop
 | .int, a => ∃ n, a = .val (.int .i64 n)
 | .str, a => ∃ s, a = .val (.string s)
 | .bool, a => ∃ b, a = .val (.bool b)
 | .list fs, a => ∃ es, a = .list 0 fs.length es ∧ ∀ e ∈ es, dr_ fs e
def dr_ : List Sch → List AV → Prop
 | [], cs => cs = []
 | s :: ss, cs => ∃ c r, cs = c :: r ∧ cq_ s c ∧ dr_ ss r
end
variable {mt : Int → ByteArray}
theorem kp_ {g : List AV → Int → List AV × Int} {c : List AV → Nat} {xs : List (List AV)} (hg : ∀ x ∈ xs, ∀ k, (g x k).2 = k + c x) (k : Int) : (cc_ g xs k).2 = k + cX_ c xs := by
 induction xs generalizing k with
 | nil => simp [cc_, cX_]
 | cons y xs ih =>
  rw [cc_, cX_]
  simp only
  rw [ih (fun x hx => hg x (by simp [hx])), hg y (by simp)]
  omega
theorem ow_ {g : List AV → Int → List AV × Int} {d : List AV → Int → Int} {c : List AV → Nat} {xs : List (List AV)} (hg : ∀ x ∈ xs, ∀ k, (g x k).2 = k + c x) (hd : ∀ x ∈ xs, ∀ k, 0 ≤ k → d (g x k).1 k = (g x k).2) (k : Int) (hk : 0 ≤ k) : dw_ d (cc_ g xs k).1 k = (cc_ g xs k).2 := by
 induction xs generalizing k with
 | nil => rfl
 | cons y xs ih =>
  rw [cc_]
  simp only [dw_]
  rw [hd y (by simp) k hk, hg y (by simp), if_neg (by omega)]
  exact ih (fun x hx => hg x (by simp [hx])) (fun x hx => hd x (by simp [hx])) _ (by omega)
mutual
theorem gO_ : ∀ (s : Sch) (a : AV) (k : Int), (bG_ mt s a k).2 = k + by_ s a
 | .int, a, k => by simp [bG_, by_]
 | .str, a, k => by simp [bG_, by_]
 | .bool, a, k => by simp [bG_, by_]
 | .list fs, .list tk sz es, k => by
  simp only [bG_, by_]
  exact kp_ (fun x _ k => gl_ fs x k) k
 | .list fs, .val v, k => by simp [bG_, by_]
 | .list fs, .iptr cs, k => by simp [bG_, by_]
 | .list fs, .ptr _ _ _ _, k => by simp [bG_, by_]
 | .list fs, .own _ _, k => by simp [bG_, by_]
 | .list fs, .sub _ _ _ _, k => by simp [bG_, by_]
 | .list fs, .mp _, k => by simp [bG_, by_]
 | .list fs, .agg _, k => by simp [bG_, by_]
 | .list fs, .tup _, k => by simp [bG_, by_]
 | .list fs, .fn _ _ _, k => by simp [bG_, by_]
 | .list fs, .undef, k => by simp [bG_, by_]
theorem gl_ : ∀ (fs : List Sch) (cs : List AV) (k : Int), (cu_ mt fs cs k).2 = k + c3_ fs cs
 | [], cs, k => by simp [cu_, c3_]
 | s :: ss, [], k => by simp [cu_, c3_]
 | s :: ss, c :: cs, k => by
  simp only [cu_, c3_]
  rw [gl_ ss cs, gO_ s c]; omega
end
mutual
theorem kZ_ : ∀ (s : Sch) (a : AV) (k : Int), cq_ s a → 0 ≤ k → cS_ mt s (bG_ mt s a k).1 k = (bG_ mt s a k).2
 | .int, a, k, _, hk => by simp [bG_, cS_]
 | .str, a, k, _, hk => by simp [bG_, cS_]
 | .bool, a, k, _, hk => by simp [bG_, cS_]
 | .list fs, a, k, h, hk => by
  unfold cq_ at h
  obtain ⟨es, rfl, h⟩ := h
  simp only [bG_, cS_]
  exact ow_ (fun x _ k => gl_ fs x k) (fun x hx k hk => ji_ fs x k (h x hx) hk) k hk
theorem ji_ : ∀ (fs : List Sch) (cs : List AV) (k : Int), dr_ fs cs → 0 ≤ k → fp_ mt fs (cu_ mt fs cs k).1 k = (cu_ mt fs cs k).2
 | [], cs, k, _, hk => by simp [cu_, fp_]
 | s :: ss, cs, k, h, hk => by
  unfold dr_ at h
  obtain ⟨c, r, rfl, h1, h2⟩ := h
  simp only [cu_, fp_]
  rw [kZ_ s c k h1 hk, gO_, if_neg (by omega)]
  exact ji_ ss r _ h2 (by omega)
end
mutual
theorem mW_ : ∀ (s : Sch) (a : AV) (k : Int), cq_ s a → cq_ s (bG_ mt s a k).1
 | .int, a, k, _ => by simp [bG_, cq_]
 | .str, a, k, _ => by simp [bG_, cq_]
 | .bool, a, k, _ => by simp [bG_, cq_]
 | .list fs, a, k, h => by
  unfold cq_ at h
  obtain ⟨es, rfl, h⟩ := h
  simp only [bG_, cq_]
  exact ⟨_, rfl, gq_ (fun x hx k => jk_ fs x k (h x hx)) k⟩
theorem jk_ : ∀ (fs : List Sch) (cs : List AV) (k : Int), dr_ fs cs → dr_ fs (cu_ mt fs cs k).1
 | [], cs, k, h => by unfold dr_ at h; simp [cu_, dr_, h]
 | s :: ss, cs, k, h => by
  unfold dr_ at h
  obtain ⟨c, r, rfl, h1, h2⟩ := h
  simp only [cu_]
  unfold dr_
  exact ⟨_, _, rfl, mW_ s c k h1, jk_ ss r _ h2⟩
theorem gq_ {g : List AV → Int → List AV × Int} {p : List AV → Prop} : ∀ {xs : List (List AV)}, (∀ x ∈ xs, ∀ k, p (g x k).1) → ∀ k : Int, ∀ e ∈ (cc_ g xs k).1, p e
 | [], _, k, e, he => by simp [cc_] at he
 | x :: xs, h, k, e, he => by
  simp only [cc_, mem_cons] at he
  rcases he with q | q
  ·subst q; exact h x (by simp) k
  ·exact gq_ (fun y hy => h y (by simp [hy])) _ e q
end
mutual
theorem ky_ : ∀ (s : Sch) (a : AV) (k : Int), cq_ s a → by_ s (bG_ mt s a k).1 = by_ s a
 | .int, a, k, _ => by simp [by_]
 | .str, a, k, _ => by simp [by_]
 | .bool, a, k, _ => by simp [by_]
 | .list fs, a, k, h => by
  unfold cq_ at h
  obtain ⟨es, rfl, h⟩ := h
  simp only [bG_, by_]
  exact gy_ (fun x hx k => hW_ fs x k (h x hx)) k
theorem hW_ : ∀ (fs : List Sch) (cs : List AV) (k : Int), dr_ fs cs → c3_ fs (cu_ mt fs cs k).1 = c3_ fs cs
 | [], cs, k, h => by simp [c3_]
 | s :: ss, cs, k, h => by
  unfold dr_ at h
  obtain ⟨c, r, rfl, h1, h2⟩ := h
  simp only [cu_, c3_]
  rw [ky_ s c k h1, hW_ ss r _ h2]
theorem gy_ {g : List AV → Int → List AV × Int} {c : List AV → Nat} : ∀ {xs : List (List AV)}, (∀ x ∈ xs, ∀ k, c (g x k).1 = c x) → ∀ k : Int, cX_ c (cc_ g xs k).1 = cX_ c xs
 | [], _, k => rfl
 | x :: xs, h, k => by
  simp only [cc_, cX_]
  rw [h x (by simp), gy_ (fun y hy => h y (by simp [hy]))]
end
theorem Own.lt {H : List Row} {n : Nat} {a r : AV} {fs : List Nat} (h : Own H n a r fs) : ∀ l ∈ fs, l < H.length := fun l hl => by
 obtain ⟨row, m, es, g, h1, _⟩ := h.inner l hl
 exact (List.getElem?_eq_some_iff.1 h1).1
theorem bb_.len {R : AV → AV → List Nat → Prop} : ∀ {cs ds : List AV} {fs : List Nat}, bb_ R cs ds fs → ds.length = cs.length
 | [], ds, fs, h => by obtain ⟨h, _⟩ := h; subst h; rfl
 | c :: cs, ds, fs, h => by
  obtain ⟨d, ds', f, f', e1, e2, h1, h2⟩ := h
  subst e1
  simp [bb_.len h2]
theorem bb_.split {R : AV → AV → List Nat → Prop} : ∀ {cs ds : List AV} {fs : List Nat} (j : Nat) {r : AV}, bb_ R cs ds fs → ds[j]? = some r → ∃ c f1 f2 f3, cs[j]? = some c ∧ fs = f1 ++ (f2 ++ f3) ∧ R c r f2 ∧
 ∀ (R' : AV → AV → List Nat → Prop) (c' r' : AV), (∀ a r g, (∀ l ∈ g, l ∈ f1 ∨ l ∈ f3) → R a r g → R' a r g) → R' c' r' f2 → bb_ R' (cs.set j c') (ds.set j r') fs
 | [], ds, fs, j, r, h, hj => by obtain ⟨h, _⟩ := h; subst h; simp at hj
 | c :: cs, ds, fs, 0, r, h, hj => by
  obtain ⟨d, ds', f, f', rfl, rfl, h1, h2⟩ := h
  simp only [getElem?_cons_zero, Option.some.injEq] at hj
  subst hj
  refine ⟨c, [], f, f', rfl, rfl, h1, fun R' c' r' hm hr => ?_⟩
  exact ⟨r', ds', f, f', rfl, rfl, hr, bb_.mono (fun a r g hg => hm a r g fun l hl => .inr (hg l hl)) h2⟩
 | c :: cs, ds, fs, j + 1, r, h, hj => by
  obtain ⟨d, ds', f, f', rfl, rfl, h1, h2⟩ := h
  simp only [getElem?_cons_succ] at hj
  obtain ⟨c0, f1, f2, f3, q1, rfl, q3, q4⟩ := bb_.split j h2 hj
  refine ⟨c0, f ++ f1, f2, f3, by simpa using q1, by simp, q3, fun R' c' r' hm hr => ?_⟩
  refine ⟨d, ds'.set j r', f, f1 ++ (f2 ++ f3), rfl, rfl, hm _ _ _ (fun l hl => .inl (by simp [hl])) h1, q4 R' c' r' (fun a r g hg => hm a r g fun l hl => ?_) hr⟩
  rcases hg l hl with q | q
  ·exact .inl (by simp [q])
  ·exact .inr q
theorem bg_.split {R : AV → AV → List Nat → Prop} : ∀ {es rs : List (List AV)} {fs : List Nat} (j : Nat) {d : List AV}, bg_ R es rs fs → rs[j]? = some d → ∃ e f1 f2 f3, es[j]? = some e ∧ fs = f1 ++ (f2 ++ f3) ∧ bb_ R e d f2 ∧
 ∀ (R' : AV → AV → List Nat → Prop) (e' d' : List AV), (∀ a r g, (∀ l ∈ g, l ∈ f1 ∨ l ∈ f3) → R a r g → R' a r g) → bb_ R' e' d' f2 → bg_ R' (es.set j e') (rs.set j d') fs
 | [], rs, fs, j, d, h, hj => by obtain ⟨h, _⟩ := h; subst h; simp at hj
 | e :: es, rs, fs, 0, d, h, hj => by
  obtain ⟨d0, ds', f, f', rfl, rfl, h1, h2⟩ := h
  simp only [getElem?_cons_zero, Option.some.injEq] at hj
  subst hj
  refine ⟨e, [], f, f', rfl, rfl, h1, fun R' c' r' hm hr => ?_⟩
  exact ⟨r', ds', f, f', rfl, rfl, hr, bg_.mono (fun a r g hg => hm a r g fun l hl => .inr (hg l hl)) h2⟩
 | e :: es, rs, fs, j + 1, d, h, hj => by
  obtain ⟨d0, ds', f, f', rfl, rfl, h1, h2⟩ := h
  simp only [getElem?_cons_succ] at hj
  obtain ⟨c0, f1, f2, f3, q1, rfl, q3, q4⟩ := bg_.split j h2 hj
  refine ⟨c0, f ++ f1, f2, f3, by simpa using q1, by simp, q3, fun R' c' r' hm hr => ?_⟩
  refine ⟨d0, ds'.set j r', f, f1 ++ (f2 ++ f3), rfl, rfl, bb_.mono (fun a r g hg => hm a r g fun l hl => .inl (by simp [hg l hl])) h1, q4 R' c' r' (fun a r g hg => hm a r g fun l hl => ?_) hr⟩
  rcases hg l hl with q | q
  ·exact .inl (by simp [q])
  ·exact .inr q
theorem Own.of_val {H : List Row} {m : Nat} {c : AV} {v : Value} {f : List Nat} (h : Own H m c (.val v) f) : f = [] ∧ c = .val v := by
 cases m with
 | zero => exact h.elim
 | succ m =>
  cases c with
  | val u =>
   obtain ⟨h1, h2 | ⟨_, sz, h2⟩⟩ := h
   ·simp only [AV.val.injEq] at h2; subst h2; exact ⟨h1, rfl⟩
   ·cases h2
  | own l k => obtain ⟨row, es, g, _, _, _, h4, _⟩ := h; cases h4
  | sub l k lo hi => obtain ⟨row, es, g, _, _, _, h4, _⟩ := h; cases h4
  | agg cs => obtain ⟨ds, _, h4⟩ := h; cases h4
  | tup cs => obtain ⟨ds, _, h4⟩ := h; cases h4
  | _ => exact h.elim
theorem Own.mk_val (H : List Row) (m : Nat) (v : Value) : Own H (m + 1) (.val v) (.val v) [] := ⟨rfl, .inl rfl⟩
theorem bg_.up {H : List Row} {n m : Nat} (hm : n ≤ m) {es rs : List (List AV)} {fs : List Nat} (h : bg_ (Own H n) es rs fs) : bg_ (Own H m) es rs fs := bg_.mono (fun _ _ _ _ ho => Own.up hm ho) h
theorem bb_.up {H : List Row} {n m : Nat} (hm : n ≤ m) {es rs : List AV} {fs : List Nat} (h : bb_ (Own H n) es rs fs) : bb_ (Own H m) es rs fs := bb_.mono (fun _ _ _ _ ho => Own.up hm ho) h
structure MT (H0 : List Row) (l : Nat) (E : Tag) (sz cnt : Nat) (f : List Nat) (rs : List (List AV)) (H : List Row) : Prop where
 out : ∃ m es, H[l]? = some ⟨E, sz, es⟩ ∧ es.length = cnt ∧ bg_ (Own H (m + 1)) es rs f
 len : H.length = H0.length
 kept : ∀ x, x ∉ l :: f → H[x]? = H0[x]?
theorem qc_ {α : Type} (e : List α) (off : Nat) (a : α) (h : off < e.length) : e.take off ++ [a] ++ e.drop (off + 1) = e.set off a := by
 rw [set_eq_take_append_cons_drop, if_pos h]; simp
theorem MT.put {H0 : List Row} {l : Nat} {E : Tag} {sz cnt : Nat} {f : List Nat} {rs : List (List AV)} {H : List Row} {j off : Nat} {d : List AV} {v : Value} (h : MT H0 l E sz cnt f (rs.set j d) H) (hl : l ∉ f) (hj : j < rs.length) (ho : d[off]? = some (.val v)) :
 ∃ es e, H[l]? = some ⟨E, sz, es⟩ ∧ es.length = cnt ∧ es[j]? = some e ∧ off + 1 ≤ e.length ∧
  ∀ w, MT H0 l E sz cnt f (rs.set j (d.set off (.val w))) (H.set l ⟨E, sz, es.set j (e.take off ++ [.val w] ++ e.drop (off + 1))⟩) := by
 obtain ⟨⟨m, es, h1, h2, h3⟩, h4, h5⟩ := h
 have hd : (rs.set j d)[j]? = some d := by rw [getElem?_set_self hj]
 obtain ⟨e, f1, f2, f3, q1, q2, q3, q4⟩ := h3.split j hd
 obtain ⟨c, g1, g2, g3, p1, p2, p3, p4⟩ := q3.split off ho
 obtain ⟨rfl, rfl⟩ := p3.of_val
 have hlen : off < e.length := (List.getElem?_eq_some_iff.1 p1).1
 have hlt : l < H.length := (List.getElem?_eq_some_iff.1 h1).1
 refine ⟨es, e, h1, h2, q1, hlen, fun w => ⟨⟨m, _, getElem?_set_self hlt, by simpa using h2, ?_⟩, by simpa using h4, fun x hx => ?_⟩⟩
 ·rw [qc_ e off _ hlen]
  have hk : ∀ a r g, (∀ x ∈ g, x ∈ f) → Own H (m + 1) a r g → Own (H.set l ⟨E, sz, es.set j (e.set off (.val w))⟩) (m + 1) a r g := fun a r g hg ho => ho.keep fun x hx => by
   rw [getElem?_set_ne]; rintro rfl; exact hl (hg _ hx)
  have := q4 (Own (H.set l ⟨E, sz, es.set j (e.set off (.val w))⟩) (m + 1)) (e.set off (.val w)) (d.set off (.val w)) (fun a r g hg => hk a r g fun x hx => by
   rw [q2]; rcases hg x hx with q | q <;> simp [q]) (p4 _ _ _ (fun a r g hg => hk a r g fun x hx => by
   rw [q2, p2]; rcases hg x hx with q | q <;> simp [q]) (Own.mk_val _ _ _))
  rw [set_set] at this
  exact this
 ·rw [getElem?_set_ne (by rintro rfl; simp at hx)]
  exact h5 x hx
theorem MT.sub {H0 : List Row} {l : Nat} {E : Tag} {sz cnt : Nat} {f : List Nat} {rs : List (List AV)} {H : List Row} {j off s2 : Nat} {d : List AV} {es2 : List (List AV)} (h : MT H0 l E sz cnt f (rs.set j d) H) (hl : l ∉ f) (nd : f.Nodup) (hj : j < rs.length) (ho : d[off]? = some (.list 0 s2 es2)) :
 ∃ m es e c g, H[l]? = some ⟨E, sz, es⟩ ∧ es.length = cnt ∧ es[j]? = some e ∧ cp_ none (e.drop off) = some c ∧ Own H m c (.list 0 s2 es2) g ∧ g.Nodup ∧
  ∀ H' m' es3, H'.length = H.length → (∀ x, x ∉ g → H'[x]? = H[x]?) → Own H' m' c (.list 0 s2 es3) g → MT H0 l E sz cnt f (rs.set j (d.set off (.list 0 s2 es3))) H' := by
 obtain ⟨⟨m, es, h1, h2, h3⟩, h4, h5⟩ := h
 have hd : (rs.set j d)[j]? = some d := by rw [getElem?_set_self hj]
 obtain ⟨e, f1, f2, f3, q1, q2, q3, q4⟩ := h3.split j hd
 obtain ⟨c, g1, g2, g3, p1, p2, p3, p4⟩ := q3.split off ho
 obtain ⟨hlen, hc⟩ := List.getElem?_eq_some_iff.1 p1
 obtain ⟨hle, he⟩ := List.getElem?_eq_some_iff.1 q1
 subst p2 q2
 simp only [nodup_append, mem_append] at nd
 obtain ⟨n1, ⟨⟨m1, ⟨m2, m3, m4⟩, m5⟩, n3, n4⟩, n5⟩ := nd
 refine ⟨m + 1, es, e, c, g2, h1, h2, q1, by rw [drop_eq_getElem_cons hlen, hc]; rfl, p3, m2, fun H' m' es3 e1 e2 e3 => ?_⟩
 have hlg : l ∉ g2 := fun q => hl (by simp [q])
 have hkeep : ∀ M, m + 1 ≤ M → ∀ a r g, (∀ x ∈ g, x ∉ g2) → Own H (m + 1) a r g → Own H' M a r g := fun M hM a r g hg ho => Own.up hM (ho.keep fun x hx => e2 x (hg x hx))
 refine ⟨⟨m + m', es, by rw [e2 l hlg]; exact h1, h2, ?_⟩, by rw [e1]; exact h4, fun x hx => ?_⟩
 ·have := q4 (Own H' (m + m' + 1)) (e.set off c) (d.set off (.list 0 s2 es3)) (fun a r g hg => hkeep _ (by omega) a r g fun x hx hx2 => by
   rcases hg x hx with q | q
   ·exact n5 x q x (.inl (.inr (.inl hx2))) rfl
   ·exact n4 x (.inr (.inl hx2)) x q rfl) (p4 _ _ _ (fun a r g hg => hkeep _ (by omega) a r g fun x hx hx2 => by
   rcases hg x hx with q | q
   ·exact m5 x q x (.inl hx2) rfl
   ·exact m4 x hx2 x q rfl) (Own.up (by omega) e3))
  rw [set_set] at this
  have e4 : e.set off c = e := by rw [← hc]; exact set_getElem_self hlen
  have e5 : es.set j e = es := by rw [← he]; exact set_getElem_self hle
  rw [e4, e5] at this
  exact this
 ·rw [e2 x (fun q => hx (by simp [q]))]
  exact h5 x hx
theorem iP_ {P : Program} {F l n lo hi : Nat} {as : List AV} {H : List Row} {K : AV → List Row → Prop} {row : Row} (hl : H[l]? = some row) (hn : row.es.length = n) (hc : lo ≤ hi → hi ≤ n → callSem P F (.sub l n lo hi :: as) H K) : callSem P F (.sub l n lo hi :: as) H K := by
 intro S w vals hm hgl hr
 have hr' := hr
 simp only [aj_] at hr'
 obtain ⟨v, r, e, h1, h2⟩ := hr'
 simp only [Rep] at h1
 obtain ⟨_, i, q1, q2, q3⟩ := h1
 have q4 := (hm.rows l i row q1 hl).1
 obtain ⟨q5, q6, _⟩ := q3 (by omega)
 exact hc q5 q6 S w vals hm hgl hr
theorem iY_ {P : Program} {F l n : Nat} {as : List AV} {H : List Row} {K : AV → List Row → Prop} (hc : callSem P F (.sub l n 0 n :: as) H K) : callSem P F (.own l n :: as) H K := by
 intro S w vals hm hgl hr
 refine hc S w vals hm hgl ?_
 simp only [aj_] at hr ⊢
 obtain ⟨v, r, e, h1, h2⟩ := hr
 refine ⟨v, r, e, ?_, h2⟩
 simp only [Rep] at h1 ⊢
 obtain ⟨q0, i, q1, q2, q3⟩ := h1
 refine ⟨q0, i, q1, q2, fun q => ⟨Nat.zero_le _, Nat.le_refl _, ?_⟩⟩
 rcases q3 q with q4 | q4
 ·unfold sliceAt at q4
  split at q4
  ·rename_i b hb
   right
   exact ⟨b, 0, hb, by rw [q4, Nat.sub_zero, Nat.sub_zero, q], fun _ => by simp⟩
  ·rename_i hb
   left
   exact ⟨hb, none, q4⟩
 ·exact .inl q4
def ps_ (P : Program) (F : FuncId) (mt : Int → ByteArray) (fs : List Sch) : Prop :=
 ∀ (m : Nat) (a : AV) (es : List (List AV)) (f : List Nat) (H : List Row) (k : Int) (K : AV → List Row → Prop), Own H m a (.list 0 fs.length es) f → f.Nodup → (∀ e ∈ es, dr_ fs e) → 0 ≤ k → k + cX_ (c3_ fs) es ≤ 4611686018427387904 →
  (∀ H' m', H'.length = H.length → (∀ x, x ∉ f → H'[x]? = H[x]?) → Own H' m' a (.list 0 fs.length (cc_ (cu_ mt fs) es k).1) f → K (.val (.int .i64 (cc_ (cu_ mt fs) es k).2)) H') →
  callSem P F [a, .val (.int .i64 k)] H K
theorem ps_.of {P : Program} {F : FuncId} {mt : Int → ByteArray} {fs : List Sch}
 (hnil : ∀ (H : List Row) (k : Int) (K : AV → List Row → Prop), K (.val (.int .i64 k)) H → callSem P F [.val (.slice none 0 0), .val (.int .i64 k)] H K)
 (hsub : ∀ (l cnt lo hi : Nat) (E : Tag) (rs : List (List AV)) (f : List Nat) (H : List Row) (k : Int) (K : AV → List Row → Prop), MT H l E fs.length cnt f rs H → l ∉ f → f.Nodup → rs.length = cnt → lo ≤ hi → hi ≤ cnt → (∀ e ∈ (rs.take hi).drop lo, dr_ fs e) → 0 ≤ k → k + cX_ (c3_ fs) ((rs.take hi).drop lo) ≤ 4611686018427387904 →
   (∀ H' rs', MT H l E fs.length cnt f rs' H' → (rs'.take hi).drop lo = (cc_ (cu_ mt fs) ((rs.take hi).drop lo) k).1 → K (.val (.int .i64 (cc_ (cu_ mt fs) ((rs.take hi).drop lo) k).2)) H') → callSem P F [.sub l cnt lo hi, .val (.int .i64 k)] H K) : ps_ P F mt fs := by
 intro m a es f H k K ho nd hsh hk hb hK
 cases m with
 | zero => exact ho.elim
 | succ m =>
  have part : ∀ (l cnt lo hi : Nat) (row : Row) (es0 : List (List AV)) (f0 : List Nat), H[l]? = some row → row.es.length = cnt → bg_ (Own H m) row.es es0 f0 → row.sz = fs.length → es = (es0.take hi).drop lo → f = l :: f0 →
   (∀ H' m' row' es', H'.length = H.length → (∀ x, x ∉ f → H'[x]? = H[x]?) → H'[l]? = some row' → row'.es.length = cnt → row'.sz = fs.length → bg_ (Own H' m') row'.es es' f0 → (es'.take hi).drop lo = (cc_ (cu_ mt fs) es k).1 → K (.val (.int .i64 (cc_ (cu_ mt fs) es k).2)) H') →
   callSem P F [.sub l cnt lo hi, .val (.int .i64 k)] H K := by
   rintro l cnt lo hi ⟨E, sz, res⟩ es0 f0 h1 h2 h3 h4 rfl rfl hfin
   simp only at h2 h3 h4
   subst h4
   rw [nodup_cons] at nd
   refine iP_ h1 h2 fun hlo hhi => ?_
   refine hsub l cnt lo hi E es0 f0 H k K ⟨⟨m, res, h1, h2, h3.up (by omega)⟩, rfl, fun _ _ => rfl⟩ nd.1 nd.2 (by rw [h3.len, h2]) hlo hhi hsh hk hb ?_
   rintro H' rs' ⟨⟨m', res', g1, g2, g3⟩, g4, g5⟩ e
   exact hfin H' _ ⟨E, fs.length, res'⟩ rs' g4 g5 g1 g2 rfl g3 e
  cases a with
  | val v =>
   obtain ⟨rfl, e | ⟨rfl, sz, e⟩⟩ := ho
   ·cases e
   ·simp only [AV.list.injEq] at e
    obtain ⟨_, rfl, rfl⟩ := e
    refine hnil H k K (hK H 1 rfl (fun _ _ => rfl) ⟨rfl, .inr ⟨rfl, _, rfl⟩⟩)
  | own l cnt =>
   obtain ⟨row, es0, f0, h1, h2, h3, h4, h5⟩ := ho
   simp only [AV.list.injEq, true_and] at h4
   obtain ⟨h4, rfl⟩ := h4
   have hlen : es.length = cnt := by rw [h3.len, h2]
   refine iY_ (part l cnt 0 cnt row es f0 h1 h2 h3 h4.symm (by rw [drop_zero, take_of_length_le (by omega)]) h5 ?_)
   rintro H' m' row' es' e1 e2 e3 e4 e5 e6 e7
   have hlen' : es'.length = cnt := by rw [e6.len, e4]
   rw [drop_zero, take_of_length_le (by omega)] at e7
   subst e7
   exact hK H' (m' + 1) e1 e2 ⟨row', _, f0, e3, e4, e6, by rw [e5], h5⟩
  | sub l cnt lo hi =>
   obtain ⟨row, es0, f0, h1, h2, h3, h4, h5⟩ := ho
   simp only [AV.list.injEq, true_and] at h4
   obtain ⟨h4, rfl⟩ := h4
   refine part l cnt lo hi row es0 f0 h1 h2 h3 h4.symm rfl h5 ?_
   rintro H' m' row' es' e1 e2 e3 e4 e5 e6 e7
   exact hK H' (m' + 1) e1 e2 ⟨row', es', f0, e3, e4, e6, by rw [e5, e7], h5⟩
  | agg cs => obtain ⟨ds, _, e⟩ := ho; cases e
  | tup cs => obtain ⟨ds, _, e⟩ := ho; cases e
  | _ => exact ho.elim
theorem bb_.mk_val {H : List Row} {m : Nat} {cs ds : List AV} {f : List Nat} (v : Value) (h : bb_ (Own H (m + 1)) cs ds f) : bb_ (Own H (m + 1)) (.val v :: cs) (.val v :: ds) f := ⟨_, _, [], f, rfl, rfl, Own.mk_val _ _ _, h⟩
theorem MT.elem {H0 : List Row} {l : Nat} {E : Tag} {sz cnt : Nat} {f : List Nat} {rs : List (List AV)} {H : List Row} {j : Nat} {d : List AV} (h : MT H0 l E sz cnt f rs H) (hl : l ∉ f) (nd : f.Nodup) (hd : rs[j]? = some d) :
 ∃ m es e f2, H[l]? = some ⟨E, sz, es⟩ ∧ es.length = cnt ∧ es[j]? = some e ∧ bb_ (Own H (m + 1)) e d f2 ∧ f2.Nodup ∧ l ∉ f2 ∧
  ∀ H' e' d', H'.length = H.length → H'[l]? = some ⟨E, sz, es.set j e'⟩ → (∀ x, x ∉ l :: f2 → H'[x]? = H[x]?) → (∃ m', bb_ (Own H' m') e' d' f2) → MT H0 l E sz cnt f (rs.set j d') H' := by
 obtain ⟨⟨m, es, h1, h2, h3⟩, h4, h5⟩ := h
 obtain ⟨e, f1, f2, f3, q1, q2, q3, q4⟩ := h3.split j hd
 subst q2
 simp only [nodup_append, mem_append] at nd
 obtain ⟨n1, ⟨n2, n3, n4⟩, n5⟩ := nd
 refine ⟨m, es, e, f2, h1, h2, q1, q3, n2, fun q => hl (by simp [q]), fun H' e' d' e1 e2 e3 ⟨m', e4⟩ => ⟨⟨m + m', _, e2, by simpa using h2, ?_⟩, by rw [e1, h4], fun x hx => ?_⟩⟩
 ·refine q4 (Own H' (m + m' + 1)) e' d' (fun a r g hg ho => Own.up (by omega) (ho.keep fun x hx => e3 x ?_)) (bb_.up (by omega) e4)
  rw [mem_cons]
  rintro (rfl | q)
  ·exact hl (by rcases hg _ hx with q | q <;> simp [q])
  ·rcases hg x hx with q' | q'
   ·exact n5 x q' x (.inl q) rfl
   ·exact n4 x q x q' rfl
 ·rw [e3 x (fun q => hx (by rcases mem_cons.1 q with q | q <;> simp [q]))]
  exact h5 x hx
section
variable (mt : Int → ByteArray)
end
variable {mt : Int → ByteArray}
theorem mi_ {g : List AV → Int → Int} {e : List AV} {es : List (List AV)} {k : Int} (h : g e k = -1) : dw_ g (e :: es) k = -1 := by
 simp only [dw_]; rw [if_pos (by omega)]
theorem mf_ {g : List AV → Int → Int} {e : List AV} {es : List (List AV)} {k z : Int} (h : g e k = z) (hz : 0 ≤ z) : dw_ g (e :: es) k = dw_ g es z := by
 simp only [dw_]; rw [h, if_neg (by omega)]
theorem nK_ {g : List AV → Int → Int} {c : List AV → Nat} {es : List (List AV)} (hg : ∀ e ∈ es, ∀ k, 0 ≤ k → g e k = -1 ∨ g e k = k + c e) (k : Int) (hk : 0 ≤ k) : dw_ g es k = -1 ∨ dw_ g es k = k + cX_ c es := by
 induction es generalizing k with
 | nil => right; simp [dw_, cX_]
 | cons e es ih =>
  rcases hg e (by simp) k hk with q | q
  ·left; exact mi_ q
  ·rw [mf_ q (by omega)]
   rcases ih (fun x hx => hg x (by simp [hx])) (k + c e) (by omega) with p | p
   ·exact .inl p
   ·right; rw [p, cX_]; omega
mutual
theorem k3_ : ∀ (s : Sch) (a : AV) (k : Int), cq_ s a → 0 ≤ k → cS_ mt s a k = -1 ∨ cS_ mt s a k = k + by_ s a
 | .int, a, k, h, hk => by
  unfold cq_ at h; obtain ⟨n, rfl⟩ := h
  simp only [cS_, by_]; split <;> simp
 | .str, a, k, h, hk => by
  unfold cq_ at h; obtain ⟨n, rfl⟩ := h
  simp only [cS_, by_]; split <;> simp
 | .bool, a, k, h, hk => by
  unfold cq_ at h; obtain ⟨n, rfl⟩ := h
  simp only [cS_, by_]; split <;> simp
 | .list fs, a, k, h, hk => by
  unfold cq_ at h
  obtain ⟨es, rfl, h⟩ := h
  simp only [cS_, by_]
  exact nK_ (fun e he k hk => jj_ fs e k (h e he) hk) k hk
theorem jj_ : ∀ (fs : List Sch) (cs : List AV) (k : Int), dr_ fs cs → 0 ≤ k → fp_ mt fs cs k = -1 ∨ fp_ mt fs cs k = k + c3_ fs cs
 | [], cs, k, _, hk => by simp [fp_, c3_]
 | s :: ss, cs, k, h, hk => by
  unfold dr_ at h
  obtain ⟨c, r, rfl, h1, h2⟩ := h
  simp only [fp_, c3_]
  rcases k3_ s c k h1 hk with q | q
  ·left; rw [q, if_pos (by omega)]
  ·rw [q, if_neg (by omega)]
   rcases jj_ ss r (k + by_ s c) h2 (by omega) with p | p
   ·exact .inl p
   ·right; rw [p]; omega
end
structure bp_ (lo hi : Nat) (H : List Row) (a r : AV) : Prop where
 out : ∃ n fs, Own H n a r fs ∧ fs.Nodup ∧ ∀ l ∈ fs, lo ≤ l ∧ l < hi
structure bq_ (lo hi : Nat) (H : List Row) (as rs : List AV) : Prop where
 out : ∃ n fs, bb_ (Own H n) as rs fs ∧ fs.Nodup ∧ ∀ l ∈ fs, lo ≤ l ∧ l < hi
structure ck_ (lo hi : Nat) (H : List Row) (es rs : List (List AV)) : Prop where
 out : ∃ n fs, bg_ (Own H n) es rs fs ∧ fs.Nodup ∧ ∀ l ∈ fs, lo ≤ l ∧ l < hi
section
variable {lo hi mid : Nat} {H H' : List Row} {a r : AV} {as rs as' rs' : List AV} {es ds : List (List AV)}
theorem hV_.b (h : hV_ lo H a r) : bp_ lo H.length H a r := by
 obtain ⟨n, fs, h1, h2, h3⟩ := h
 exact ⟨n, fs, h1, h2, fun l hl => ⟨h3 l hl, h1.lt l hl⟩⟩
theorem bp_.fresh (h : bp_ lo hi H a r) : hV_ lo H a r := by
 obtain ⟨n, fs, h1, h2, h3⟩ := h
 exact ⟨n, fs, h1, h2, fun l hl => (h3 l hl).1⟩
theorem bp_.keep (hk : ∀ l, lo ≤ l → l < hi → H'[l]? = H[l]?) (h : bp_ lo hi H a r) : bp_ lo hi H' a r := by
 obtain ⟨n, fs, h1, h2, h3⟩ := h
 exact ⟨n, fs, h1.keep fun l hl => hk l (h3 l hl).1 (h3 l hl).2, h2, h3⟩
theorem bq_.keep (hk : ∀ l, lo ≤ l → l < hi → H'[l]? = H[l]?) (h : bq_ lo hi H as rs) : bq_ lo hi H' as rs := by
 obtain ⟨n, fs, h1, h2, h3⟩ := h
 exact ⟨n, fs, bb_.mono (fun a r g hg ho => ho.keep fun l hl => hk l (h3 l (hg l hl)).1 (h3 l (hg l hl)).2) h1, h2, h3⟩
theorem ck_.keep (hk : ∀ l, lo ≤ l → l < hi → H'[l]? = H[l]?) (h : ck_ lo hi H es ds) : ck_ lo hi H' es ds := by
 obtain ⟨n, fs, h1, h2, h3⟩ := h
 exact ⟨n, fs, bg_.mono (fun a r g hg ho => ho.keep fun l hl => hk l (h3 l (hg l hl)).1 (h3 l (hg l hl)).2) h1, h2, h3⟩
theorem bp_.widen {lo' hi' : Nat} (h1 : lo' ≤ lo) (h2 : hi ≤ hi') (h : bp_ lo hi H a r) : bp_ lo' hi' H a r := by
 obtain ⟨n, fs, q1, q2, q3⟩ := h
 exact ⟨n, fs, q1, q2, fun l hl => by have := q3 l hl; omega⟩
theorem bq_.widen {lo' hi' : Nat} (h1 : lo' ≤ lo) (h2 : hi ≤ hi') (h : bq_ lo hi H as rs) : bq_ lo' hi' H as rs := by
 obtain ⟨n, fs, q1, q2, q3⟩ := h
 exact ⟨n, fs, q1, q2, fun l hl => by have := q3 l hl; omega⟩
theorem ck_.widen {lo' hi' : Nat} (h1 : lo' ≤ lo) (h2 : hi ≤ hi') (h : ck_ lo hi H es ds) : ck_ lo' hi' H es ds := by
 obtain ⟨n, fs, q1, q2, q3⟩ := h
 exact ⟨n, fs, q1, q2, fun l hl => by have := q3 l hl; omega⟩
theorem bp_.mknil (lo hi : Nat) (H : List Row) (sz : Nat) : bp_ lo hi H (.val (.slice none 0 0)) (.list 0 sz []) := ⟨1, [], ⟨rfl, .inr ⟨rfl, _, rfl⟩⟩, nodup_nil, by simp⟩
theorem bq_.nil (lo hi : Nat) (H : List Row) : bq_ lo hi H [] [] := ⟨0, [], ⟨rfl, rfl⟩, nodup_nil, by simp⟩
theorem ck_.nil (lo hi : Nat) (H : List Row) : ck_ lo hi H [] [] := ⟨0, [], ⟨rfl, rfl⟩, nodup_nil, by simp⟩
theorem bq_.cons (h1 : bp_ lo mid H a r) (h2 : bq_ mid hi H as rs) (hm : lo ≤ mid ∧ mid ≤ hi) : bq_ lo hi H (a :: as) (r :: rs) := by
 obtain ⟨n, fs, p1, p2, p3⟩ := h1
 obtain ⟨m, gs, q1, q2, q3⟩ := h2
 refine ⟨n + m, fs ++ gs, ⟨r, rs, fs, gs, rfl, rfl, Own.up (by omega) p1, bb_.up (by omega) q1⟩, ?_, fun l hl => ?_⟩
 ·rw [nodup_append]
  exact ⟨p2, q2, fun x hx y hy => by have := p3 x hx; have := q3 y hy; omega⟩
 ·rcases mem_append.1 hl with q | q
  ·have := p3 l q; omega
  ·have := q3 l q; omega
theorem bq_.val (v : Value) (h2 : bq_ lo hi H as rs) : bq_ lo hi H (.val v :: as) (.val v :: rs) := by
 obtain ⟨m, gs, q1, q2, q3⟩ := h2
 exact ⟨m + 1, gs, ⟨.val v, rs, [], gs, rfl, rfl, Own.mk_val _ _ _, bb_.up (by omega) q1⟩, q2, q3⟩
theorem ck_.snoc (h1 : ck_ lo mid H es ds) (h2 : bq_ mid hi H as rs) (hm : lo ≤ mid ∧ mid ≤ hi) : ck_ lo hi H (es ++ [as]) (ds ++ [rs]) := by
 obtain ⟨n, fs, p1, p2, p3⟩ := h1
 obtain ⟨m, gs, q1, q2, q3⟩ := h2
 refine ⟨n + m, fs ++ gs, ?_, ?_, fun l hl => ?_⟩
 ·have p1' := bg_.up (Nat.le_add_right n m) p1
  have q1' := bb_.up (Nat.le_add_left m n) q1
  clear p1 q1 p2 p3 q2 q3
  induction es generalizing ds fs with
  | nil =>
   obtain ⟨rfl, rfl⟩ := p1'
   exact ⟨rs, [], gs, [], rfl, by simp, q1', rfl, rfl⟩
  | cons e es ih =>
   obtain ⟨d, ds', f, f', rfl, rfl, g1, g2⟩ := p1'
   exact ⟨d, ds' ++ [rs], f, f' ++ gs, rfl, by simp, g1, ih _ g2⟩
 ·rw [nodup_append]
  exact ⟨p2, q2, fun x hx y hy => by have := p3 x hx; have := q3 y hy; omega⟩
 ·rcases mem_append.1 hl with q | q
  ·have := p3 l q; omega
  ·have := q3 l q; omega
theorem bp_.agg (h : bq_ lo hi H as rs) : bp_ lo hi H (.agg as) (.agg rs) := by
 obtain ⟨n, fs, p1, p2, p3⟩ := h
 exact ⟨n + 1, fs, ⟨rs, p1, rfl⟩, p2, p3⟩
theorem bp_.tup (h : bq_ lo hi H as rs) : bp_ lo hi H (.tup as) (.tup rs) := by
 obtain ⟨n, fs, p1, p2, p3⟩ := h
 exact ⟨n + 1, fs, ⟨rs, p1, rfl⟩, p2, p3⟩
theorem bp_.untup (h : bp_ lo hi H (.tup as) (.tup rs)) : bq_ lo hi H as rs := by
 obtain ⟨n, fs, p1, p2, p3⟩ := h
 cases n with
 | zero => exact p1.elim
 | succ n =>
  obtain ⟨ds, q1, q2⟩ := p1
  cases q2
  exact ⟨n, fs, q1, p2, p3⟩
theorem bp_.mkown {lo' l k : Nat} {E : Tag} {sz : Nat} (h : ck_ lo hi H es ds) (hl : H[l]? = some ⟨E, sz, es⟩) (hk : es.length = k) (h1 : lo' ≤ l) (h2 : l < lo) (h3 : lo ≤ hi) : bp_ lo' hi H (.own l k) (.list 0 sz ds) := by
 obtain ⟨n, fs, p1, p2, p3⟩ := h
 refine ⟨n + 1, l :: fs, ⟨⟨E, sz, es⟩, ds, fs, hl, hk, p1, rfl, rfl⟩, ?_, fun x hx => ?_⟩
 ·rw [nodup_cons]
  exact ⟨fun q => by have := p3 l q; omega, p2⟩
 ·rcases mem_cons.1 hx with q | q
  ·subst q; omega
  ·have := p3 x q; omega
theorem bp_.arg (h : bp_ lo hi H a r) : cP_ H a r := by
 obtain ⟨n, fs, h1, _⟩ := h
 exact .inr ⟨n, fs, h1⟩
theorem co_.two {b q : AV} (h1 : cP_ H a r) (h2 : cP_ H b q) : co_ H [a, b] [r, q] := ⟨_, _, rfl, h1, _, _, rfl, h2, rfl⟩
theorem co_.one (h1 : cP_ H a r) : co_ H [a] [r] := ⟨_, _, rfl, h1, rfl⟩
theorem cP_.same (hp : a.plain = true) : cP_ H a a := .inl ⟨rfl, hp⟩
theorem co_.cons (h1 : cP_ H a r) (h2 : co_ H as rs) : co_ H (a :: as) (r :: rs) := ⟨_, _, rfl, h1, h2⟩
theorem co_.nil : co_ H [] [] := rfl
end
theorem kq_ {P : Program} {f : FuncId} {args : List AV} {R : AV → Prop} (D : AV → List Row → AV → Prop) (hD : ∀ (S : Sit) (h : List Row) (w : World) (a r : AV) (x : Value), ao_ S h w → Rep S a x → D a h r → Rep (S.shut w) r x) (hp : args.all AV.plain = true) (hw : callSem P f args [] fun av h' => ∃ r, D av h' r ∧ R r) (h : List Row) (K : AV → List Row → Prop) (hk : ∀ r, R r → K r h) : callSem P f args h K := by
 intro S w vals hm hgl hr
 have hm0 : ao_ S.still [] w := ⟨hm.imm, rfl, by simp [Sit.still], by simp [Sit.still]⟩
 refine (hw S.still w vals hm0 hgl (eE_ hp hr)).mono ?_
 rintro e w' ⟨v, av, S1, h1, rfl, st, hm1, rv, r, hres, hR⟩
 have rr := hD S1 h1 w' av r v hm1 rv hres
 have hnone : ∀ b, ¬ S.still.owns b := by
  rintro b ⟨l, i, q, _⟩
  simp [Sit.still] at q
 have hblk : ∀ b, b < w.heap.size → w'.heap[b]? = w.heap[b]? := fun b hb => st.block b hb (hnone b)
 have hown1 : ∀ b, S1.owns b → w.heap.size ≤ b := fun b hb => by
  rcases st.ownNew b hb with q | q
  ·exact absurd q (hnone b)
  ·exact q
 have himm1 : ∀ b c, S1.imm b = some c → S.imm b = some c ∨ w.heap.size ≤ b := fun b c hb => by
  rcases st.immNew b c hb with q | q | q
  ·exact .inl q
  ·exact absurd q (hnone b)
  ·exact .inr q
 have hshut : ∀ b c, (S1.shut w').imm b = some c → S.imm b = some c ∨ w.heap.size ≤ b := by
  intro b c hb
  simp only [Sit.shut] at hb
  split at hb
  ·rename_i hq
   exact .inr (hown1 b (cJ_.1 hq))
  ·exact himm1 b c hb
 have hle : S.le { imm := (S1.shut w').imm, rows := S.rows } := by
  refine ⟨fun b c e => ?_, fun l i e => ⟨i, e, Nat.le_refl _, fun _ => rfl⟩⟩
  exact (eu_ hm1).imm b c (st.le.imm b c e)
 refine ⟨v, r, { imm := (S1.shut w').imm, rows := S.rows }, h, rfl, ⟨hle, st.os, st.tape, st.output, st.size, fun b hb _ => hblk b hb, fun b q => .inl q, fun b c q => ?_⟩, ⟨fun b c q => ?_, hm.len, fun l i rw q1 q2 => ?_, hm.one⟩, ?_, hk r hR⟩
 ·rcases hshut b c q with q | q
  ·exact .inl q
  ·exact .inr (.inr q)
 ·simp only [Sit.shut] at q
  split at q
  ·split at q
   ·rename_i c' E fr hb
    simp at q; subst q
    exact ⟨E, fr, hb⟩
   ·simp at q
  ·exact hm1.imm b c q
 ·obtain ⟨k1, k2, k3, k4⟩ := hm.rows l i rw q1 q2
  refine ⟨k1, k2, k3, ?_⟩
  cases hb : i.blk with
  | none => rw [hb] at k4; exact k4
  | some b =>
   rw [hb] at k4
   have j1 := k4.1
   have hlt := hm.ownLt ⟨l, i, q1, hb⟩
   refine ⟨?_, k4.2.le hle (hblk b hlt)⟩
   cases q : (S1.shut w').imm b with
   | none => rfl
   | some d =>
    rcases hshut b d q with q' | q'
    ·rw [j1] at q'; cases q'
    ·omega
 ·have hl2 : (S1.shut w').le { imm := (S1.shut w').imm, rows := S.rows } := ⟨fun _ _ e => e, by simp [Sit.shut]⟩
  exact Rep.up hl2 _ _ rr
theorem hs_.pure {P : Program} {f : FuncId} {args : List AV} {r : AV} {Q : AV → Prop} (hc : hs_ P f args r Q) (hp : args.all AV.plain = true) (h : List Row) : aa_ P f args h r := by
 intro K hk
 refine kq_ (R := fun x => x = r) (fun a h r => ∃ n fs, Own h n a r fs) (fun S h w a r x hm rx ⟨n, fs, ho⟩ => Own.rep hm n a x r fs rx ho) hp ?_ h K (by rintro _ rfl; exact hk)
 refine hc [] _ (fun av hn hf hq => ?_)
 obtain ⟨n, fs, h1, _⟩ := hf
 exact ⟨r, ⟨n, fs, h1⟩, rfl⟩
theorem aa_.own {P : Program} {f : FuncId} {as rs : List AV} {H : List Row} {v : Value} (hc : ∀ h, aa_ P f rs h (.val v)) (ha : co_ H as rs) : aa_ P f as H (.val v) := fun _ hk => nd_ hc ha hk
theorem bq_.app {lo mid hi : Nat} {H : List Row} {as rs as' rs' : List AV} (h1 : bq_ lo mid H as rs) (h2 : bq_ mid hi H as' rs') (hm : lo ≤ mid ∧ mid ≤ hi) : bq_ lo hi H (as ++ as') (rs ++ rs') := by
 obtain ⟨n, fs, p1, p2, p3⟩ := h1
 obtain ⟨m, gs, q1, q2, q3⟩ := h2
 refine ⟨n + m, fs ++ gs, ?_, ?_, fun l hl => ?_⟩
 ·have p1' := bb_.up (Nat.le_add_right n m) p1
  have q1' := bb_.up (Nat.le_add_left m n) q1
  clear p1 q1 p2 p3 q2 q3
  induction as generalizing rs fs with
  | nil =>
   obtain ⟨rfl, rfl⟩ := p1'
   exact q1'
  | cons e es ih =>
   obtain ⟨d, ds', f, f', rfl, rfl, g1, g2⟩ := p1'
   exact ⟨d, ds' ++ rs', f, f' ++ gs, rfl, by simp, g1, ih _ g2⟩
 ·rw [nodup_append]
  exact ⟨p2, q2, fun x hx y hy => by have := p3 x hx; have := q3 y hy; omega⟩
 ·rcases mem_append.1 hl with q | q
  ·have := p3 l q; omega
  ·have := q3 l q; omega
structure FB (lo hi : Nat) (H : List Row) (a r : AV) : Prop where
 tree : bp_ lo hi H a r
 le : hi ≤ H.length
structure cL_ (H H' : List Row) : Prop where
 len : H.length ≤ H'.length
 kept : ∀ l, l < H.length → H'[l]? = H[l]?
structure But (fs : List Nat) (H H' : List Row) : Prop where
 len : H.length ≤ H'.length
 kept : ∀ l, l < H.length → l ∉ fs → H'[l]? = H[l]?
section
variable {lo hi : Nat} {H H' : List Row} {a r : AV} {fs : List Nat}
theorem cL_.at {i : Nat} {row : Row} (m : cL_ H H') (o : H[i]? = some row) : H'[i]? = some row := (m.kept i (List.getElem?_eq_some_iff.1 o).1).trans o
theorem cL_.row (H : List Row) (row : Row) : cL_ H (H ++ [row]) := ⟨by simp, fun l hl => getElem?_append_left hl⟩
theorem cL_.trans {H'' : List Row} (h : cL_ H H') (k : cL_ H' H'') : cL_ H H'' := ⟨Nat.le_trans h.len k.len, fun l hl => (k.kept l (Nat.lt_of_lt_of_le hl h.len)).trans (h.kept l hl)⟩
theorem But.at {i : Nat} {row : Row} (m : But fs H H') (o : H[i]? = some row) (h : i ∉ fs) : H'[i]? = some row := (m.kept i (List.getElem?_eq_some_iff.1 o).1 h).trans o
end
theorem FB.two {lo hi : Nat} {H : List Row} {a r : AV} {v u : Value} (h : FB lo hi H (.tup [a, .val v]) (.tup [r, .val u])) : FB lo hi H a r ∧ (.val v = AV.val u) := by
 have h4 := h.le
 obtain ⟨n, fs, h1, h2, h3⟩ := h.tree.untup
 obtain ⟨d, ds, f, f', e1, rfl, q1, q2⟩ := h1
 simp only [List.cons.injEq] at e1
 obtain ⟨rfl, rfl⟩ := e1
 obtain ⟨d, ds, f2, f3, e1, rfl, q3, q4⟩ := q2
 simp only [List.cons.injEq] at e1
 obtain ⟨rfl, rfl⟩ := e1
 obtain ⟨_, rfl⟩ := q4
 obtain ⟨rfl, e⟩ := q3.of_val
 refine ⟨⟨⟨n, f, q1, (nodup_append.1 h2).1, fun l hl => h3 l (mem_append_left _ hl)⟩, h4⟩, e⟩
theorem FB.arg {lo hi : Nat} {H : List Row} {a r : AV} (h : FB lo hi H a r) : cP_ H a r := h.tree.arg
variable {mt : Int → ByteArray}
def Cv (L : Nat) (a b : AV) : Prop := b = a ∨ (a = .val (.slice none 0 0) ∧ b = .own L 0)
def CvL (L : Nat) : List AV → List AV → Prop
 | [], bs => bs = []
 | a :: as, bs => ∃ b r, bs = b :: r ∧ Cv L a b ∧ CvL L as r
def di_ (L : Nat) : List (List AV) → List (List AV) → Prop
 | [], bs => bs = []
 | a :: as, bs => ∃ b r, bs = b :: r ∧ CvL L a b ∧ di_ L as r
theorem CvL.len {L : Nat} : ∀ {as bs : List AV}, CvL L as bs → bs.length = as.length
 | [], bs, h => by unfold CvL at h; subst h; rfl
 | a :: as, bs, h => by
  unfold CvL at h
  obtain ⟨b, r, rfl, _, h2⟩ := h
  simp [h2.len]
theorem CvL.refl (L : Nat) : ∀ as : List AV, CvL L as as
 | [] => rfl
 | a :: as => ⟨a, as, rfl, .inl rfl, CvL.refl L as⟩
theorem di_.refl (L : Nat) : ∀ as : List (List AV), di_ L as as
 | [] => rfl
 | a :: as => ⟨a, as, rfl, CvL.refl L a, di_.refl L as⟩
theorem di_.len {L : Nat} : ∀ {as bs : List (List AV)}, di_ L as bs → bs.length = as.length
 | [], bs, h => by unfold di_ at h; subst h; rfl
 | a :: as, bs, h => by
  unfold di_ at h
  obtain ⟨b, r, rfl, _, h2⟩ := h
  simp [h2.len]
theorem di_.all {L sz : Nat} : ∀ {as bs : List (List AV)}, di_ L as bs → (∀ e ∈ as, e.length = sz) → ∀ e ∈ bs, e.length = sz
 | [], bs, h, _ => by unfold di_ at h; subst h; simp
 | a :: as, bs, h, hs => by
  unfold di_ at h
  obtain ⟨b, r, rfl, h1, h2⟩ := h
  intro e he
  rcases mem_cons.1 he with q | q
  ·subst q; rw [h1.len]; exact hs a (by simp)
  ·exact h2.all (fun x hx => hs x (by simp [hx])) e q
section
variable {S S' : Sit} {L sz : Nat} (hle : S.le S') (hL : S'.rows[L]? = some ⟨0, none, 0, sz⟩)
include hle hL
theorem Cv.rep {a b : AV} {x : Value} (h : Cv L a b) (r : Rep S a x) : Rep S' b x := by
 rcases h with rfl | ⟨rfl, rfl⟩
 ·exact Rep.up hle _ _ r
 ·simp only [Rep] at r ⊢
  subst r
  exact ⟨⟨_, _, _, rfl⟩, _, hL, Nat.le_refl _, fun _ => .inl rfl⟩
theorem CvL.repPre : ∀ {as bs : List AV} {vs : List Value}, CvL L as bs → aX_ S as vs → aX_ S' bs vs
 | [], bs, vs, h, r => by unfold CvL at h; subst h; simp [aX_]
 | a :: as, bs, vs, h, r => by
  unfold CvL at h
  obtain ⟨b, q, rfl, h1, h2⟩ := h
  simp only [aX_] at r ⊢
  obtain ⟨v, w, e, r1, r2⟩ := r
  exact ⟨v, w, e, h1.rep hle hL r1, CvL.repPre h2 r2⟩
theorem di_.rep : ∀ {as bs : List (List AV)} {vs : List Value}, di_ L as bs → aO_ S as vs → aO_ S' bs vs
 | [], bs, vs, h, r => by unfold di_ at h; subst h; simp [aO_]
 | a :: as, bs, vs, h, r => by
  unfold di_ at h
  obtain ⟨b, q, rfl, h1, h2⟩ := h
  simp only [aO_] at r ⊢
  exact ⟨h1.repPre hle hL r.1, by rw [h1.len]; exact di_.rep h2 r.2⟩
end
structure cH_ (l : Nat) (H : List Row) (E : Tag) (sz : Nat) (done ds : List (List AV)) : Prop where
 row : H[l]? = some ⟨E, sz, done⟩
 tree : ck_ (l + 1) H.length H done ds
theorem cH_.lt {l : Nat} {H : List Row} {E : Tag} {sz : Nat} {done ds : List (List AV)} (g : cH_ l H E sz done ds) : l < H.length := (List.getElem?_eq_some_iff.1 g.row).1
theorem cH_.step {l : Nat} {H H1 H2 : List Row} {E : Tag} {sz : Nat} {done ds : List (List AV)} {cs rs : List AV} (g : cH_ l H E sz done ds) (hf : bq_ H.length H1.length H1 cs rs) (h1 : H.length ≤ H1.length) (hk : ∀ x, l < x → x < H.length → H1[x]? = H[x]?)
 (h2 : H1.length ≤ H2.length) (hk2 : ∀ x, l < x → x < H1.length → H2[x]? = H1[x]?) (hr : H2[l]? = some ⟨E, sz, done ++ [cs]⟩) : cH_ l H2 E sz (done ++ [cs]) (ds ++ [rs]) := by
 refine ⟨hr, ck_.snoc (mid := H.length) (g.tree.keep fun x q1 q2 => ?_) ((hf.keep fun x q1 q2 => ?_).widen (Nat.le_refl _) h2) ⟨g.lt, by omega⟩⟩
 ·rw [hk2 x (by omega) (by omega), hk x (by omega) q2]
 ·exact hk2 x (by have := g.lt; omega) q2
theorem cH_.more {l : Nat} {H H' : List Row} {E : Tag} {sz : Nat} {done ds : List (List AV)} (g : cH_ l H E sz done ds) (h1 : H.length ≤ H'.length) (hk : ∀ x, l ≤ x → x < H.length → H'[x]? = H[x]?) : cH_ l H' E sz done ds :=
 ⟨by rw [hk l (Nat.le_refl _) g.lt]; exact g.row, (g.tree.keep fun x q1 q2 => hk x (by omega) q2).widen (Nat.le_refl _) h1⟩
theorem cH_.done {l n : Nat} {H : List Row} {E : Tag} {sz : Nat} {done ds : List (List AV)} (g : cH_ l H E sz done ds) (hn : done.length = n) : bp_ l H.length H (.own l n) (.list 0 sz ds) :=
 bp_.mkown g.tree g.row hn (Nat.le_refl _) (Nat.lt_succ_self _) g.lt
theorem cH_.agg {l n lo : Nat} {H : List Row} {E : Tag} {sz : Nat} {done ds : List (List AV)} (g : cH_ l H E sz done ds) (hn : done.length = n) (hlo : lo ≤ l) (v u : Value) : bp_ lo H.length H (.agg [.val v, .val u, .own l n]) (.agg [.val v, .val u, .list 0 sz ds]) :=
 (bp_.agg (bq_.val _ (bq_.val _ (bq_.cons (g.done hn) (bq_.nil _ _ _) ⟨Nat.le_of_lt g.lt, Nat.le_refl _⟩)))).widen hlo (Nat.le_refl _)
theorem cH_.zero {l : Nat} {H : List Row} {E : Tag} {sz : Nat} (h : H[l]? = some ⟨E, sz, []⟩) : cH_ l H E sz [] [] := ⟨h, .nil _ _ _⟩
theorem bq_.rest {lo hi : Nat} {H : List Row} {a r : AV} {as rs : List AV} (h : bq_ lo hi H (a :: as) (r :: rs)) : bq_ lo hi H as rs := by
 obtain ⟨n, fs, ⟨d, ds, f, f', e1, rfl, h1, h2⟩, p2, p3⟩ := h
 cases e1
 exact ⟨n, f', h2, (nodup_append.1 p2).2.1, fun l hl => p3 l (mem_append_right _ hl)⟩
section
variable {H0 H H' : List Row} {i : Nat} {r : Row}
theorem cL_.refl (H : List Row) : cL_ H H := ⟨Nat.le_refl _, fun _ _ => rfl⟩
theorem cL_.set (m : cL_ H0 H) (h : H0.length ≤ i) : cL_ H0 (H.set i r) := ⟨by rw [List.length_set]; exact m.len, fun l hl => by rw [getElem?_set_ne (by omega)]; exact m.kept l hl⟩
theorem cL_.add (m : cL_ H0 H) (l : List Row) : cL_ H0 (H ++ l) := ⟨by rw [List.length_append]; have := m.len; omega, fun x hx => by rw [getElem?_append_left (by have := m.len; omega)]; exact m.kept x hx⟩
theorem cL_.app (H l : List Row) : cL_ H (H ++ l) := (cL_.refl H).add l
end
theorem bp_.pair {lo hi : Nat} {H : List Row} {a r : AV} (h : bp_ lo hi H a r) (hl : lo ≤ hi) (v : Value) : bp_ lo hi H (.tup [a, .val v]) (.tup [r, .val v]) :=
 bp_.tup (bq_.cons h (bq_.val v (bq_.nil hi hi H)) ⟨hl, Nat.le_refl _⟩)
mutual
def AV.shift (k : Nat) : AV → AV
 | .val v => .val v
 | .list tk sz es => .list tk sz es
 | .iptr cs => .iptr cs
 | .ptr l n i off => .ptr (l + k) n i off
 | .own l n => .own (l + k) n
 | .sub l n lo hi => .sub (l + k) n lo hi
 | .mp l => .mp (l + k)
 | .agg cs => .agg (cv_ k cs)
 | .tup cs => .tup (cv_ k cs)
 | .fn f a b => .fn f (cv_ k a) (cv_ k b)
 | .undef => .undef
def cv_ (k : Nat) : List AV → List AV
 | [] => []
 | c :: cs => c.shift k :: cv_ k cs
end
theorem gM_ (k : Nat) : ∀ cs : List AV, (cv_ k cs).length = cs.length
 | [] => rfl
 | c :: cs => by simp only [cv_, List.length_cons]; rw [gM_ k cs]
def d5_ (k : Nat) (es : List (List AV)) : List (List AV) := es.map (cv_ k)
def dj_ (k : Nat) (r : Row) : Row := ⟨r.E, r.sz, d5_ k r.es⟩
section
variable {S S2 : Sit} {R : List b6_} {k : Nat} (himm : S2.imm = S.imm) (hrows : S2.rows = R ++ S.rows) (hk : R.length = k)
include himm hrows hk
theorem eO_ {l : Nat} : S2.rows[l + k]? = S.rows[l]? := by
 rw [hrows, getElem?_append_right (by omega)]; congr 1; omega
theorem f3_ : S2.still = S.still := by simp [Sit.still, himm]
mutual
theorem Rep.shift : ∀ (a : AV) (x : Value), Rep S a x → Rep S2 (a.shift k) x
 | .val v, x, r => by simpa [Rep, AV.shift] using r
 | .list tk sz es, x, r => by
  simp only [Rep, AV.shift] at r ⊢
  rw [himm, f3_ himm hrows hk]; exact r
 | .iptr cs, x, r => by
  simp only [Rep, AV.shift] at r ⊢
  rw [himm, f3_ himm hrows hk]; exact r
 | .ptr l n i off, x, r => by
  simp only [Rep, AV.shift] at r ⊢
  rw [eO_ himm hrows hk]; exact r
 | .own l n, x, r => by
  simp only [Rep, AV.shift] at r ⊢
  rw [eO_ himm hrows hk]; exact r
 | .sub l n lo hi, x, r => by
  simp only [Rep, AV.shift] at r ⊢
  rw [eO_ himm hrows hk]; exact r
 | .mp l, x, r => by
  simp only [Rep, AV.shift] at r ⊢
  rw [eO_ himm hrows hk]; exact r
 | .agg cs, x, r => by
  simp only [Rep, AV.shift] at r ⊢
  obtain ⟨vs, e, r⟩ := r
  exact ⟨vs, e, aj_.shift cs _ r⟩
 | .tup cs, x, r => by
  simp only [Rep, AV.shift] at r ⊢
  obtain ⟨vs, e, r⟩ := r
  exact ⟨vs, e, aj_.shift cs _ r⟩
 | .fn f a b, x, r => by
  simp only [Rep, AV.shift] at r ⊢
  obtain ⟨vs, us, e, r1, r2⟩ := r
  exact ⟨vs, us, e, aj_.shift a _ r1, aj_.shift b _ r2⟩
 | .undef, x, r => by simp [Rep, AV.shift]
theorem aj_.shift : ∀ (a : List AV) (x : List Value), aj_ S a x → aj_ S2 (cv_ k a) x
 | [], x, r => by simpa [aj_, cv_] using r
 | c :: cs, x, r => by
  simp only [aj_, cv_] at r ⊢
  obtain ⟨v, w, e, r1, r2⟩ := r
  exact ⟨v, w, e, Rep.shift c v r1, aj_.shift cs w r2⟩
end
theorem aX_.shift : ∀ (a : List AV) (x : List Value), aX_ S a x → aX_ S2 (cv_ k a) x
 | [], x, r => by simp [aX_, cv_]
 | c :: cs, x, r => by
  simp only [aX_, cv_] at r ⊢
  obtain ⟨v, w, e, r1, r2⟩ := r
  exact ⟨v, w, e, Rep.shift himm hrows hk c v r1, aX_.shift cs w r2⟩
theorem aO_.shift : ∀ (es : List (List AV)) (x : List Value), aO_ S es x → aO_ S2 (d5_ k es) x
 | [], x, r => by simp [aO_, d5_]
 | c :: cs, x, r => by
  simp only [d5_, map_cons, aO_] at r ⊢
  exact ⟨aX_.shift himm hrows hk c _ r.1, by rw [gM_]; exact aO_.shift cs _ r.2⟩
end
section
variable {H h : List Row} {k : Nat} (hk : h.length = k)
include hk
theorem hd_ {l : Nat} : (h ++ H.map (dj_ k))[l + k]? = (H[l]?).map (dj_ k) := by
 rw [getElem?_append_right (by omega), getElem?_map]; congr 2; omega
theorem bb_.shift {R R' : AV → AV → List Nat → Prop} (hR : ∀ a r f, R a r f → R' (a.shift k) r (f.map (· + k))) : ∀ {as rs : List AV} {fs : List Nat}, bb_ R as rs fs → bb_ R' (cv_ k as) rs (fs.map (· + k))
 | [], rs, fs, ho => by
  obtain ⟨rfl, rfl⟩ := ho
  exact ⟨rfl, rfl⟩
 | a :: as, rs, fs, ho => by
  obtain ⟨d, ds, f, f', rfl, rfl, h1, h2⟩ := ho
  exact ⟨d, ds, _, _, rfl, by rw [map_append], hR _ _ _ h1, bb_.shift hR h2⟩
theorem bg_.shift {R R' : AV → AV → List Nat → Prop} (hR : ∀ a r f, R a r f → R' (a.shift k) r (f.map (· + k))) : ∀ {as rs : List (List AV)} {fs : List Nat}, bg_ R as rs fs → bg_ R' (d5_ k as) rs (fs.map (· + k))
 | [], rs, fs, ho => by
  obtain ⟨rfl, rfl⟩ := ho
  exact ⟨rfl, rfl⟩
 | a :: as, rs, fs, ho => by
  obtain ⟨d, ds, f, f', rfl, rfl, h1, h2⟩ := ho
  exact ⟨d, ds, _, _, rfl, by rw [map_append], bb_.shift hk hR h1, bg_.shift hR h2⟩
theorem Own.shift : ∀ {n : Nat} {a r : AV} {fs : List Nat}, Own H n a r fs → Own (h ++ H.map (dj_ k)) n (a.shift k) r (fs.map (· + k))
 | 0, a, r, fs, ho => ho.elim
 | n + 1, .val v, r, fs, ho => by
  obtain ⟨rfl, h2⟩ := ho
  exact ⟨rfl, h2⟩
 | n + 1, .own l m, r, fs, ho => by
  obtain ⟨row, es, f, h1, h2, h3, rfl, rfl⟩ := ho
  refine ⟨dj_ k row, es, _, by rw [hd_ hk, h1]; rfl, by simpa [dj_, d5_] using h2, bg_.shift hk (fun a r f ho => Own.shift ho) h3, rfl, by simp⟩
 | n + 1, .sub l m lo hi, r, fs, ho => by
  obtain ⟨row, es, f, h1, h2, h3, rfl, rfl⟩ := ho
  refine ⟨dj_ k row, es, _, by rw [hd_ hk, h1]; rfl, by simpa [dj_, d5_] using h2, bg_.shift hk (fun a r f ho => Own.shift ho) h3, rfl, by simp⟩
 | n + 1, .agg cs, r, fs, ho => by
  obtain ⟨ds, h1, rfl⟩ := ho
  exact ⟨ds, bb_.shift hk (fun a r f ho => Own.shift ho) h1, rfl⟩
 | n + 1, .tup cs, r, fs, ho => by
  obtain ⟨ds, h1, rfl⟩ := ho
  exact ⟨ds, bb_.shift hk (fun a r f ho => Own.shift ho) h1, rfl⟩
 | n + 1, .list _ _ _, r, fs, ho => ho.elim
 | n + 1, .iptr _, r, fs, ho => ho.elim
 | n + 1, .ptr _ _ _ _, r, fs, ho => ho.elim
 | n + 1, .mp _, r, fs, ho => ho.elim
 | n + 1, .fn _ _ _, r, fs, ho => ho.elim
 | n + 1, .undef, r, fs, ho => ho.elim
theorem bp_.shift {lo hi : Nat} {a r : AV} (hf : bp_ lo hi H a r) : bp_ (lo + k) (hi + k) (h ++ H.map (dj_ k)) (a.shift k) r := by
 obtain ⟨n, fs, h1, h2, h3⟩ := hf
 refine ⟨n, _, Own.shift hk h1, List.Pairwise.map _ (fun a b hab q => hab (by omega)) h2, fun l hl => ?_⟩
 obtain ⟨m, hm, rfl⟩ := mem_map.1 hl
 have := h3 m hm
 omega
end
section
variable {H l t : List Row} {i j : Nat} {r : Row}
end
structure Tr where
 c : List AV
 d : List AV
 f : List Nat
theorem bg_.of_trs {R : AV → AV → List Nat → Prop} : ∀ ts : List Tr, (∀ t ∈ ts, bb_ R t.c t.d t.f) → bg_ R (ts.map Tr.c) (ts.map Tr.d) (ts.map Tr.f).flatten
 | [], _ => ⟨rfl, rfl⟩
 | t :: ts, h => ⟨t.d, ts.map Tr.d, t.f, (ts.map Tr.f).flatten, rfl, by simp, h t (by simp), bg_.of_trs ts fun x hx => h x (by simp [hx])⟩
def fb_ (l : Nat) (ts : List Tr) : List Nat := l :: (ts.map Tr.f).flatten
structure cz_ (lo : Nat) (H : List Row) (E sz l m : Nat) (ts : List Tr) : Prop where
 row : H[l]? = some ⟨.ty E, sz, ts.map Tr.c⟩
 le : m ≤ ts.length
 wide : ∀ t ∈ ts, t.c.length = sz ∧ t.c.all AV.cell = true
 tree : ∃ k, ∀ t ∈ ts, bb_ (Own H k) t.c t.d t.f
 one : (fb_ l ts).Nodup
 lows : ∀ x ∈ fb_ l ts, lo ≤ x ∧ x < H.length
def Sl (a : AV) (l m : Nat) (ts : List Tr) : Prop := a = .sub l ts.length 0 m ∨ (a = .own l ts.length ∧ m = ts.length)
section
variable {lo E sz l m : Nat} {H H' : List Row} {ts : List Tr} {a : AV}
theorem cz_.lt (s : cz_ lo H E sz l m ts) : l < H.length := (List.getElem?_eq_some_iff.1 s.row).1
theorem cz_.fresh (s : cz_ lo H E sz l m ts) : bp_ lo H.length H (.sub l ts.length 0 m) (.list 0 sz ((ts.take m).map Tr.d)) := by
 obtain ⟨k, hk⟩ := s.tree
 exact ⟨k + 1, fb_ l ts, ⟨⟨.ty E, sz, ts.map Tr.c⟩, ts.map Tr.d, (ts.map Tr.f).flatten, s.row, by simp, bg_.of_trs ts hk, by simp [map_take], rfl⟩, s.one, s.lows⟩
theorem cz_.freshOwn (s : cz_ lo H E sz l m ts) : bp_ lo H.length H (.own l ts.length) (.list 0 sz (ts.map Tr.d)) := by
 obtain ⟨k, hk⟩ := s.tree
 exact ⟨k + 1, fb_ l ts, ⟨⟨.ty E, sz, ts.map Tr.c⟩, ts.map Tr.d, (ts.map Tr.f).flatten, s.row, by simp, bg_.of_trs ts hk, rfl, rfl⟩, s.one, s.lows⟩
theorem cz_.freshS (s : cz_ lo H E sz l m ts) (h : Sl a l m ts) : bp_ lo H.length H a (.list 0 sz ((ts.take m).map Tr.d)) := by
 rcases h with rfl | ⟨rfl, rfl⟩
 ·exact s.fresh
 ·rw [take_length]; exact s.freshOwn
theorem Sl.cell (h : Sl a l m ts) : a.cell = true := by
 rcases h with rfl | ⟨rfl, _⟩ <;> rfl
theorem cz_.keep (s : cz_ lo H E sz l m ts) (hk : ∀ x ∈ fb_ l ts, H'[x]? = H[x]?) (hl : H.length ≤ H'.length) : cz_ lo H' E sz l m ts := by
 obtain ⟨k, ht⟩ := s.tree
 refine ⟨by rw [hk l (by simp [fb_])]; exact s.row, s.le, s.wide, ⟨k, fun t q => ?_⟩, s.one, fun x hx => ?_⟩
 ·refine bb_.mono (fun a r g hg ho => ho.keep fun x hx => hk x ?_) (ht t q)
  exact mem_cons_of_mem _ (mem_flatten.2 ⟨t.f, mem_map.2 ⟨t, q, rfl⟩, hg x hx⟩)
 ·have := s.lows x hx; omega
theorem cz_.more (s : cz_ lo H E sz l m ts) (h : cL_ H H') : cz_ lo H' E sz l m ts := s.keep (fun x hx => h.kept x (s.lows x hx).2) h.len
theorem cz_.apart (s : cz_ lo H E sz l m ts) {t : Tr} (ht : t ∈ ts) : l ∉ t.f := by
 intro h
 have := (nodup_cons.1 s.one).1
 exact this (mem_flatten.2 ⟨t.f, mem_map.2 ⟨t, ht, rfl⟩, h⟩)
theorem cz_.arg (s : cz_ lo H E sz l m ts) {t : Tr} (ht : t ∈ ts) (hk : ∀ x ∈ t.f, H'[x]? = H[x]?) : cP_ H' (.agg t.c) (.agg t.d) := by
 obtain ⟨k, h⟩ := s.tree
 exact .inr ⟨k + 1, t.f, t.d, bb_.mono (fun a r g hg ho => ho.keep fun x hx => hk x (hg x hx)) (h t ht), rfl⟩
theorem cz_.put (s : cz_ lo H E sz l m ts) {k : Nat} {t' : Tr} (hk : k < ts.length) (hf : t'.f = ts[k].f) (hw : t'.c.length = sz ∧ t'.c.all AV.cell = true) (ht : ∀ n, bb_ (Own H n) ts[k].c ts[k].d ts[k].f → bb_ (Own H n) t'.c t'.d t'.f) : cz_ lo (H.set l ⟨.ty E, sz, (ts.set k t').map Tr.c⟩) E sz l m (ts.set k t') := by
 obtain ⟨q, h⟩ := s.tree
 have hmap : (ts.set k t').map Tr.f = ts.map Tr.f := by
  rw [map_set, hf]
  apply ext_getElem?
  intro i
  rw [getElem?_set]
  split
  ·rename_i e
   subst e
   rw [if_pos (by simpa using hk), getElem?_map, getElem?_eq_getElem hk]; rfl
  ·rfl
 have hkeep : ∀ t ∈ ts, ∀ x ∈ t.f, (H.set l ⟨.ty E, sz, (ts.set k t').map Tr.c⟩)[x]? = H[x]? := fun t ht x hx => getElem?_set_ne (fun e : l = x => s.apart ht (by rw [e]; exact hx))
 refine ⟨by rw [getElem?_set_self s.lt], by rw [List.length_set]; exact s.le, fun t ht' => ?_, ⟨q, fun t ht' => ?_⟩, ?_, fun x hx => ?_⟩
 ·rcases mem_or_eq_of_mem_set ht' with e | e
  ·exact s.wide t e
  ·subst e; exact hw
 ·rcases mem_or_eq_of_mem_set ht' with e | e
  ·exact bb_.mono (fun a r g hg ho => ho.keep fun x hx => hkeep t e x (hg x hx)) (h t e)
  ·subst e
   have := ht q (h _ (getElem_mem hk))
   exact bb_.mono (fun a r g hg ho => ho.keep fun x hx => hkeep _ (getElem_mem hk) x (by rw [← hf]; exact hg x hx)) this
 ·unfold fb_; rw [hmap]; exact s.one
 ·unfold fb_ at hx; rw [hmap] at hx
  rw [List.length_set]; exact s.lows x hx
end
structure cY_ (H : List Row) (a r : AV) : Prop where
 out : ∀ (S : Sit) (w : World) (x : Value), ao_ S H w → Rep S a x → Rep (S.shut w) r x
def cf_ (H : List Row) : List AV → List AV → Prop
 | [], rs => rs = []
 | a :: as, rs => ∃ r rs', rs = r :: rs' ∧ cY_ H a r ∧ cf_ H as rs'
theorem cf_.nil {H : List Row} : cf_ H [] [] := rfl
theorem cf_.cons {H : List Row} {a r : AV} {as rs : List AV} (h1 : cY_ H a r) (h2 : cf_ H as rs) : cf_ H (a :: as) (r :: rs) := ⟨_, _, rfl, h1, h2⟩
theorem cP_.any {H : List Row} {a r : AV} (h : cP_ H a r) : cY_ H a r := ⟨fun S w x m hr => by
 rcases h with ⟨rfl, hp⟩ | ⟨n, fs, h1⟩
 ·exact Rep.up (eu_ m) _ _ (eY_ hp hr)
 ·exact Own.rep m n a x r fs hr h1⟩
theorem cY_.same {H : List Row} {a : AV} (hp : a.plain = true) : cY_ H a a := (cP_.same hp).any
theorem cY_.res {H : List Row} {a r : AV} {n : Nat} (h : resolve H n a = some r) : cY_ H a r := ⟨fun S w x m hr => eU_ m n a x r hr h⟩
theorem cY_.box {H : List Row} {l : Nat} {E : Tag} {sz : Nat} {c r : AV} (hl : H[l]? = some ⟨E, sz, [[c]]⟩) (hc : cY_ H c r) : cY_ H (.ptr l 1 0 0) (.iptr [r]) := ⟨fun S w x m hr => by
 simp only [Rep] at hr
 obtain ⟨_, i, q1, q2, q3⟩ := hr
 obtain ⟨k1, k2, k3, k4⟩ := m.rows l i _ q1 hl
 obtain ⟨b, hb, hx⟩ := q3 (by rw [k1]; rfl)
 rw [hb] at k4
 obtain ⟨_, cs, _, j2, j3, j4, j5, j6⟩ := k4.2.cells (.inl (by simp))
 simp only [aO_, aX_] at j3
 obtain ⟨⟨v, q, e, r1, _⟩, _⟩ := j3
 have hown : S.ownsB b = true := cJ_.2 ⟨l, i, q1, hb⟩
 have hlen : cs.size = q.length + 1 := by
  have := congrArg List.length e
  simpa using this
 simp only [Rep]
 refine ⟨b, 0, cs, by simpa using hx, by simp [Sit.shut, hown, j2], by simp [hlen], ?_⟩
 rw [drop_zero, e]
 simp only [aX_]
 exact ⟨v, q, rfl, hc.out S w v m r1, trivial⟩⟩
theorem cf_.rep {S : Sit} {H : List Row} {w : World} (m : ao_ S H w) : ∀ {as rs : List AV} {xs : List Value}, cf_ H as rs → aj_ S as xs → aj_ (S.shut w) rs xs
 | [], rs, xs, h, r => by subst h; simpa [aj_] using r
 | a :: as, rs, xs, h, r => by
  obtain ⟨d, ds, e, h1, h2⟩ := h
  subst e
  simp only [aj_] at r ⊢
  obtain ⟨v, q, e, r1, r2⟩ := r
  exact ⟨v, q, e, h1.out S w v m r1, cf_.rep m h2 r2⟩
theorem aa_.anyR {P : Program} {f : FuncId} {as rs : List AV} {H : List Row} {r : AV} (hs : r.solid = true) (hc : ∀ h, aa_ P f rs h r) (ha : cf_ H as rs) : aa_ P f as H r := by
 intro K hk S w vals hm hgl hr
 have hm0 : ao_ (S.shut w) [] w := ⟨hm.shut, rfl, by simp [Sit.shut], by simp [Sit.shut]⟩
 refine (hc [] (fun q _ => q = r) rfl (S.shut w) w vals hm0 (hgl.shut hm) (ha.rep hm hr)).mono ?_
 rintro e w' ⟨v', av, S1, h1, rfl, st, hm1, rv, rfl⟩
 have b : Go.RowKit.Below w.heap.size w w' := ⟨st.os, st.tape, st.output, st.size, fun k hk => st.block k hk (by rintro ⟨l, i, q, _⟩; simp [Sit.shut] at q)⟩
 exact ⟨v', _, S, H, rfl, Step.below b, hm.below b, kM_ hs rv, hk⟩
structure TB (E0 E sz L lo : Nat) (H : List Row) (l m : Nat) (ts : List Tr) : Prop where
 box : ∃ a, H[L]? = some ⟨.ty E0, 1, [[a]]⟩ ∧ Sl a l m ts
 lt : L < lo
 at' : cz_ lo H E sz l m ts
theorem TB.tree {E0 E sz L lo l m : Nat} {H : List Row} {ts : List Tr} (b : TB E0 E sz L lo H l m ts) : ∃ a, H[L]? = some ⟨.ty E0, 1, [[a]]⟩ ∧ Sl a l m ts ∧ bp_ lo H.length H a (.list 0 sz ((ts.take m).map Tr.d)) := by
 obtain ⟨a, h1, h2⟩ := b.box
 exact ⟨a, h1, h2, b.at'.freshS h2⟩
theorem TB.keep {E0 E sz L lo l m : Nat} {H H' : List Row} {ts : List Tr} (b : TB E0 E sz L lo H l m ts) (hb : H'[L]? = H[L]?) (hk : ∀ x ∈ fb_ l ts, H'[x]? = H[x]?) (hl : H.length ≤ H'.length) : TB E0 E sz L lo H' l m ts := by
 obtain ⟨a, h1, h2⟩ := b.box
 exact ⟨⟨a, hb.trans h1, h2⟩, b.lt, b.at'.keep hk hl⟩
theorem TB.more {E0 E sz L lo l m : Nat} {H H' : List Row} {ts : List Tr} (b : TB E0 E sz L lo H l m ts) (h : cL_ H H') : TB E0 E sz L lo H' l m ts := by
 obtain ⟨a, h1, h2⟩ := b.box
 exact b.keep (h.kept L (List.getElem?_eq_some_iff.1 h1).1) (fun x hx => h.kept x (b.at'.lows x hx).2) h.len
end Go.AW
