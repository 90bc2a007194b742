/-
  A small program logic over abstract values, proved sound over the model: what a function's code gives for data, without worlds and cells. Nothing of any one program. No conditions.
-/
import Derived.Test.YtkddmakjmjmokaaGreatDoorAwB
import Derived.Lib.LaidTab
import Derived.Below
import Derived.Sort.Grow

set_option linter.unusedVariables false
set_option linter.unusedSimpArgs false
set_option linter.unusedSectionVars false

namespace Go.AW
section
variable {P : Program} {N : Nat} {Q : Post} {k : List Fr} {t : Nat → AV} {h : List Row}

/-- A branch: it waits until its test is known. -/
structure ExC (P : Program) (N : Nat) (Q : Post) (v : AV) (a b : LC) (k : List Fr) (t : Nat → AV) (h : List Row) : Prop where
  out : match v with | .val (.bool q) => (q = true → Ex P N Q a k t h) ∧ (q = false → Ex P N Q b k t h) | _ => False

theorem Ex_condC (c : Operand) (a b : LC) : Ex P N Q (.cond c a b) k t h = ExC P N Q (aeval t c) a b k t h := by
  rw [Ex_cond]
  exact propext ⟨fun q => ⟨q⟩, fun q => q.out⟩
theorem ExC_true (a b : LC) : ExC P N Q (.val (.bool true)) a b k t h = Ex P N Q a k t h :=
  propext ⟨fun q => q.out.1 rfl, fun q => ⟨⟨fun _ => q, fun e => (by cases e)⟩⟩⟩
theorem ExC_false (a b : LC) : ExC P N Q (.val (.bool false)) a b k t h = Ex P N Q b k t h :=
  propext ⟨fun q => q.out.2 rfl, fun q => ⟨⟨fun e => (by cases e), fun _ => q⟩⟩⟩

theorem ExC_split {q : Bool} {a b : LC} (h1 : q = true → Ex P N Q a k t h) (h2 : q = false → Ex P N Q b k t h) : ExC P N Q (.val (.bool q)) a b k t h := ⟨⟨h1, h2⟩⟩
theorem ExC_splitN {q : Bool} {a b : LC} (h1 : q = true → Ex P N Q b k t h) (h2 : q = false → Ex P N Q a k t h) : ExC P N Q (.val (.bool (!q))) a b k t h :=
  ⟨⟨fun e => h2 (by simpa using e), fun e => h1 (by simpa using e)⟩⟩
theorem ExG_split {q : Bool} {d : Option Nat} {op : LOp} {l : List LI} (h1 : q = true → ExG P N Q (some true) d op l k t h) (h2 : q = false → ExG P N Q (some false) d op l k t h) : ExG P N Q (some q) d op l k t h := by
  cases q
  · exact h2 rfl
  · exact h1 rfl
theorem ExG_splitN {q : Bool} {d : Option Nat} {op : LOp} {l : List LI} (h1 : q = true → ExG P N Q (some false) d op l k t h) (h2 : q = false → ExG P N Q (some true) d op l k t h) : ExG P N Q (some (!q)) d op l k t h := by
  cases q
  · exact h2 rfl
  · exact h1 rfl
theorem ExH_split {q : Bool} {d : Option Nat} {op : LOp} {l : List LI} (h1 : q = true → ExH P N Q (some true) d op l k t h) (h2 : q = false → ExH P N Q (some false) d op l k t h) : ExH P N Q (some q) d op l k t h := by
  cases q
  · exact h2 rfl
  · exact h1 rfl
theorem ExH_splitN {q : Bool} {d : Option Nat} {op : LOp} {l : List LI} (h1 : q = true → ExH P N Q (some false) d op l k t h) (h2 : q = false → ExH P N Q (some true) d op l k t h) : ExH P N Q (some (!q)) d op l k t h := by
  cases q
  · exact h2 rfl
  · exact h1 rfl
theorem ExG_T {q : Bool} {d : Option Nat} {op : LOp} {l : List LI} (e : q = true) (h1 : q = true → ExG P N Q (some true) d op l k t h) : ExG P N Q (some q) d op l k t h := by subst e; exact h1 rfl
theorem ExG_F {q : Bool} {d : Option Nat} {op : LOp} {l : List LI} (e : q = false) (h1 : q = false → ExG P N Q (some false) d op l k t h) : ExG P N Q (some q) d op l k t h := by subst e; exact h1 rfl
theorem ExG_NT {q : Bool} {d : Option Nat} {op : LOp} {l : List LI} (e : q = true) (h1 : q = true → ExG P N Q (some false) d op l k t h) : ExG P N Q (some (!q)) d op l k t h := by subst e; exact h1 rfl
theorem ExG_NF {q : Bool} {d : Option Nat} {op : LOp} {l : List LI} (e : q = false) (h1 : q = false → ExG P N Q (some true) d op l k t h) : ExG P N Q (some (!q)) d op l k t h := by subst e; exact h1 rfl
theorem ExH_T {q : Bool} {d : Option Nat} {op : LOp} {l : List LI} (e : q = true) (h1 : q = true → ExH P N Q (some true) d op l k t h) : ExH P N Q (some q) d op l k t h := by subst e; exact h1 rfl
theorem ExH_F {q : Bool} {d : Option Nat} {op : LOp} {l : List LI} (e : q = false) (h1 : q = false → ExH P N Q (some false) d op l k t h) : ExH P N Q (some q) d op l k t h := by subst e; exact h1 rfl
theorem ExH_NT {q : Bool} {d : Option Nat} {op : LOp} {l : List LI} (e : q = true) (h1 : q = true → ExH P N Q (some false) d op l k t h) : ExH P N Q (some (!q)) d op l k t h := by subst e; exact h1 rfl
theorem ExH_NF {q : Bool} {d : Option Nat} {op : LOp} {l : List LI} (e : q = false) (h1 : q = false → ExH P N Q (some true) d op l k t h) : ExH P N Q (some (!q)) d op l k t h := by subst e; exact h1 rfl
theorem ExC_T {q : Bool} {a b : LC} (e : q = true) (h1 : q = true → Ex P N Q a k t h) : ExC P N Q (.val (.bool (q))) a b k t h := by subst e; exact (ExC_true a b).symm ▸ h1 rfl
theorem ExC_F {q : Bool} {a b : LC} (e : q = false) (h1 : q = false → Ex P N Q b k t h) : ExC P N Q (.val (.bool (q))) a b k t h := by subst e; exact (ExC_false a b).symm ▸ h1 rfl
theorem ExC_NT {q : Bool} {a b : LC} (e : q = true) (h1 : q = true → Ex P N Q b k t h) : ExC P N Q (.val (.bool (!q))) a b k t h := by subst e; exact (ExC_false a b).symm ▸ h1 rfl
theorem ExC_NF {q : Bool} {a b : LC} (e : q = false) (h1 : q = false → Ex P N Q a k t h) : ExC P N Q (.val (.bool (!q))) a b k t h := by subst e; exact (ExC_true a b).symm ▸ h1 rfl
end

/-- The bytes of a text, as numbers. -/
def byts (s : ByteArray) : List Int := s.data.toList.map fun b => (b.toNat : Int)
theorem byts_length (s : ByteArray) : (byts s).length = s.size := by
  unfold byts; rw [List.length_map, Array.length_toList]; rfl
theorem str_get {s : ByteArray} {i : Nat} (h : i < s.size) : s[i]? = some s[i] := getElem?_pos s i h
theorem str_at {s : ByteArray} {i : Nat} (h : i < s.size) : ((s[i]).toNat : Int) = (byts s)[i]'(by rw [byts_length]; exact h) := by
  simp only [byts, List.getElem_map, Array.getElem_toList]; rfl
theorem indexStr_at {s : ByteArray} {i : Nat} (h : i < s.size) : (match s[i]? with | some b => some (AV.val (Value.int .u8 b.toNat)) | none => none) = some (AV.val (Value.int .u8 ((byts s)[i]'(by rw [byts_length]; exact h)))) := by
  rw [str_get h]; simp only [str_at h]

/-- The index of the first element with p, from k up; -1: none. -/
def idxFrom {α : Type} (p : α → Bool) : List α → Nat → Int
  | [], _ => -1
  | x :: xs, k => if p x then (k : Int) else idxFrom p xs (k + 1)
theorem idxFrom_drop {α : Type} (p : α → Bool) (xs : List α) (k : Nat) (h : k < xs.length) : idxFrom p (xs.drop k) k = if p xs[k] then (k : Int) else idxFrom p (xs.drop (k + 1)) (k + 1) := by
  rw [List.drop_eq_getElem_cons h]; rfl
theorem idxFrom_end {α : Type} (p : α → Bool) (xs : List α) (k : Nat) (h : xs.length ≤ k) : idxFrom p (xs.drop k) k = -1 := by
  rw [List.drop_eq_nil_of_le h]; rfl
theorem idxFrom_any' {α : Type} (p : α → Bool) : ∀ (xs : List α) (k : Nat), decide (0 ≤ idxFrom p xs k) = xs.any p
  | [], k => rfl
  | x :: xs, k => by
    simp only [idxFrom, List.any_cons]
    by_cases e : p x = true
    · simp [e]
    · simp only [e, Bool.false_eq_true, if_false, Bool.false_or]; exact idxFrom_any' p xs (k + 1)
theorem idxFrom_any {α : Type} (p : α → Bool) (xs : List α) : decide (0 ≤ idxFrom p xs 0) = xs.any p := idxFrom_any' p xs 0
theorem all_drop {α : Type} (p : α → Bool) (xs : List α) (k : Nat) (h : k < xs.length) : (xs.drop k).all p = (p xs[k] && (xs.drop (k + 1)).all p) := by
  rw [List.drop_eq_getElem_cons h]; rfl
theorem all_end {α : Type} (p : α → Bool) (xs : List α) (k : Nat) (h : xs.length ≤ k) : (xs.drop k).all p = true := by
  rw [List.drop_eq_nil_of_le h]; rfl
theorem nat0 (k : Nat) : ((k : Int) = 0) = (k = 0) := by simp
theorem natpos (k : Nat) : ((0 : Int) < (k : Int)) = (0 < k) := by simp
theorem toNat_pred (k : Nat) : ((k : Int) - 1).toNat = k - 1 := by omega
/-- All indices from k up, n of them. -/
def allN (p : Nat → Bool) : Nat → Nat → Bool
  | 0, _ => true
  | n + 1, k => p k && allN p n (k + 1)
theorem allN_step (p : Nat → Bool) (n k : Nat) (h : k < n) : allN p (n - k) k = (p k && allN p (n - (k + 1)) (k + 1)) := by
  have : n - k = (n - (k + 1)) + 1 := by omega
  rw [this]; rfl
theorem allN_end (p : Nat → Bool) (n k : Nat) (h : n ≤ k) : allN p (n - k) k = true := by
  have : n - k = 0 := by omega
  rw [this]; rfl
theorem get_old {h l : List Row} {i : Nat} {r : Row} (e : h[i]? = some r) : (h ++ l)[i]? = some r := by
  have := (List.getElem?_eq_some_iff.1 e).1
  rw [List.getElem?_append_left this, e]
theorem pred_nonneg {k : Nat} (h : 0 < k) : (0 ≤ (k : Int) - 1) = True := by
  apply eq_true; omega
theorem decN (p : Prop) [Decidable p] : (!decide p) = decide (¬ p) := by by_cases h : p <;> simp [h]
attribute [go_sem] Ex_condC ExC_true ExC_false Go.undef boundOr asNat Nat.zero_le str_get str_at nat0 natpos toNat_pred wrap_in pred_nonneg
end Go.AW

namespace Go.AW

structure ExP (P : Program) (N : Nat) (Q : Post) (pre todo : List LI) (chain : List (LI × List LI)) (k : List Fr) (t : Nat → AV) (h : List Row) : Prop where
  out : preWp h todo t fun T => holds T h pre ∧ chWp P chain T h (exK P N Q k .normal)
structure ExCh (P : Program) (N : Nat) (Q : Post) (chain : List (LI × List LI)) (k : List Fr) (t : Nat → AV) (h : List Row) : Prop where
  out : chWp P chain t h (exK P N Q k .normal)
structure AfC (P : Program) (N : Nat) (Q : Post) (d : Option Nat) (loose : List LI) (chain : List (LI × List LI)) (k : List Fr) (t : Nat → AV) (v : AV) (h : List Row) : Prop where
  out : holds (put t d v) h loose ∧ chWp P chain (put t d v) h (exK P N Q k .normal)
structure Hol (T : Nat → AV) (h : List Row) (l : List LI) : Prop where
  out : holds T h l
def evWp (t : Nat → AV) (h : List Row) (K : AV → Prop) (op : LOp) : Prop := match opEval t h op with | some v => K v | none => False
structure AfP (P : Program) (N : Nat) (Q : Post) (pre : List LI) (d : Option Nat) (todo : List LI) (chain : List (LI × List LI)) (k : List Fr) (t : Nat → AV) (h : List Row) (v : AV) : Prop where
  out : preWp h todo (put t d v) fun T => holds T h pre ∧ chWp P chain T h (exK P N Q k .normal)
section
variable {P : Program} {N : Nat} {Q : Post} {k : List Fr} {t : Nat → AV} {h : List Row}
theorem Ex_gops (pre : List LI) (chain : List (LI × List LI)) : Ex P N Q (.gops pre chain) k t h = ExP P N Q pre pre chain k t h := propext ⟨fun q => ⟨q.out⟩, fun q => ⟨q.out⟩⟩
theorem ExP_nil (pre : List LI) (chain : List (LI × List LI)) : ExP P N Q pre [] chain k t h = (Hol t h pre ∧ ExCh P N Q chain k t h) :=
  propext ⟨fun q => ⟨⟨q.out.1⟩, ⟨q.out.2⟩⟩, fun q => ⟨⟨q.1.out, q.2.out⟩⟩⟩
theorem ExP_cons (pre : List LI) (d : Option Nat) (op : LOp) (r : List LI) (chain : List (LI × List LI)) : ExP P N Q pre (⟨d, none, op⟩ :: r) chain k t h = evWp t h (AfP P N Q pre d r chain k t h) op := by
  unfold evWp
  cases hv : opEval t h op with
  | none =>
    refine propext ⟨fun q => ?_, fun q => q.elim⟩
    have := q.out
    unfold preWp at this
    simp only [hv] at this
  | some v =>
    refine propext ⟨fun q => ⟨?_⟩, fun q => ⟨?_⟩⟩
    · have := q.out
      unfold preWp at this
      simp only [hv] at this
      exact this
    · unfold preWp
      simp only [hv]
      exact q.out
theorem AfP_eq (pre : List LI) (d : Option Nat) (r : List LI) (chain : List (LI × List LI)) (v : AV) : AfP P N Q pre d r chain k t h v = ExP P N Q pre r chain k (put t d v) h := propext ⟨fun q => ⟨q.out⟩, fun q => ⟨q.out⟩⟩
theorem Hol_nil : Hol t h [] = True := propext ⟨fun _ => trivial, fun _ => ⟨trivial⟩⟩
theorem Hol_cons (d : Nat) (op : LOp) (r : List LI) : Hol t h (⟨some d, none, op⟩ :: r) = (evWp t h (fun v => v = t d) op ∧ Hol t h r) := by
  refine propext ⟨fun q => ?_, fun q => ⟨?_⟩⟩
  · have := q.out
    unfold holds at this
    refine ⟨?_, ⟨this.2⟩⟩
    unfold evWp
    rw [this.1]
  · unfold holds
    refine ⟨?_, q.2.out⟩
    have := q.1
    unfold evWp at this
    simp only
    split at this
    · rename_i v hv; rw [hv, this]
    · exact this.elim
theorem ExCh_nil : ExCh P N Q [] k t h = ExK P N Q k .normal t h := propext ⟨fun q => ⟨q.out⟩, fun q => ⟨q.out⟩⟩
theorem AfC_fun (d : Option Nat) (loose : List LI) (chain : List (LI × List LI)) : AfC P N Q d loose chain k t = fun v h => holds (put t d v) h loose ∧ chWp P chain (put t d v) h (exK P N Q k .normal) :=
  funext fun _ => funext fun _ => propext ⟨fun q => q.out, fun q => ⟨q⟩⟩
theorem ExCh_cons (d : Option Nat) (op : LOp) (loose : List LI) (r : List (LI × List LI)) : ExCh P N Q ((⟨d, none, op⟩, loose) :: r) k t h = opWp P t h (AfC P N Q d loose r k t) op := by
  rw [AfC_fun]; exact propext ⟨fun q => q.out, fun q => ⟨q⟩⟩
theorem AfC_eq (d : Option Nat) (loose : List LI) (r : List (LI × List LI)) (v : AV) : AfC P N Q d loose r k t v h = (Hol (put t d v) h loose ∧ ExCh P N Q r k (put t d v) h) :=
  propext ⟨fun q => ⟨⟨q.out.1⟩, ⟨q.out.2⟩⟩, fun q => ⟨⟨q.1.out, q.2.out⟩⟩⟩
end
attribute [go_sem] Ex_gops ExP_nil ExP_cons AfP_eq Hol_nil Hol_cons ExCh_nil ExCh_cons AfC_eq evWp
end Go.AW

namespace Go.AW
open Go.RowKit

theorem Models.below {S : Sit} {h : List Row} {w w' : World} (m : Models S h w) (b : Below w.heap.size w w') : Models S h w' := by
  refine ⟨fun k c e => ?_, m.len, fun l i r q1 q2 => ?_, m.one⟩
  · rw [b.block k (m.immLt e)]; exact m.imm k c e
  · obtain ⟨k1, k2, k3, k4⟩ := m.rows l i r q1 q2
    refine ⟨k1, k2, k3, ?_⟩
    cases hb : i.blk with
    | none => rw [hb] at k4; exact k4
    | some k =>
      rw [hb] at k4
      exact ⟨k4.1, k4.2.le (.refl S) (b.block k (m.ownLt ⟨l, i, q1, hb⟩))⟩
theorem Step.below {S : Sit} {w w' : World} (b : Below w.heap.size w w') : Step S w S w' :=
  ⟨.refl S, b.os, b.tape, b.output, b.size, fun k hk _ => b.block k hk, fun _ q => .inl q, fun _ _ q => .inl q⟩
theorem RepL_valsM {S : Sit} : ∀ {vs xs : List Value}, RepL S (vs.map AV.val) xs → xs = vs
  | [], xs, r => by simpa [RepL] using r
  | v :: vs, xs, r => by
    simp only [List.map_cons, RepL] at r
    obtain ⟨x, r', e, r1, r2⟩ := r
    simp only [Rep] at r1
    rw [e, r1, RepL_valsM r2]

/-- A contract of the shelf over plain values; it may lean on the tables. -/
theorem shelf_pure {P : Program} {f : FuncId} {vals : List Value} {v : Value}
    (hc : ∀ w, (∀ p ∈ tabs, (P.globalNamed p.1).isSome = true → w.var? P p.1 = some p.2) → Calls P f vals.toArray w fun e w' => e = .returned v ∧ Below w.heap.size w w') (h : List Row) : PureCall P f (vals.map AV.val) h (.val v) := by
  intro K hk S w xs hm hgl hr
  have e := RepL_valsM hr
  have e' : xs = vals.toArray := by cases xs; simp at e; rw [e]
  subst e'
  refine (hc w ?_).mono ?_
  · intro p hp hs
    obtain ⟨g, hg⟩ := Option.isSome_iff_exists.1 hs
    obtain ⟨E, fr, hw⟩ := hm.imm g p.2 (hgl.1 p hp g hg)
    simp only [World.var?, hg, Option.bind_some, hw]
  · rintro e w' ⟨rfl, b⟩
    exact ⟨v, .val v, S, h, rfl, Step.below b, hm.below b, by simp [Rep], hk⟩
/-- A contract of the shelf that reads the greatest length of a search. -/
theorem shelf_pureM {P : Program} {f : FuncId} {vals : List Value} {v : Value}
    (hc : ∀ w, (∀ g, P.globalNamed "internal/bytealg.MaxLen" = some g → ∃ m, w.cell? ⟨g, 0, none⟩ = some (.int .i64 m)) → Calls P f vals.toArray w fun e w' => e = .returned v ∧ Below w.heap.size w w') (h : List Row) : PureCall P f (vals.map AV.val) h (.val v) := by
  intro K hk S w xs hm hgl hr
  have e := RepL_valsM hr
  have e' : xs = vals.toArray := by cases xs; simp at e; rw [e]
  subst e'
  refine (hc w ?_).mono ?_
  · intro g hg
    obtain ⟨c, m, h1, h2⟩ := hgl.2 g hg
    obtain ⟨E, fr, hw⟩ := hm.imm g c h1
    exact ⟨m, by simp [World.cell?, hw, h2]⟩
  · rintro e w' ⟨rfl, b⟩
    exact ⟨v, .val v, S, h, rfl, Step.below b, hm.below b, by simp [Rep], hk⟩
end Go.AW

namespace Go.AW
open Go.RowKit

def OwnL (R : AV → AV → List Nat → Prop) : List AV → List AV → List Nat → Prop
  | [], ds, fs => ds = [] ∧ fs = []
  | c :: cs, ds, fs => ∃ d ds' f f', ds = d :: ds' ∧ fs = f ++ f' ∧ R c d f ∧ OwnL R cs ds' f'
def OwnLL (R : AV → AV → List Nat → Prop) : List (List AV) → List (List AV) → List Nat → Prop
  | [], ds, fs => ds = [] ∧ fs = []
  | e :: es, ds, fs => ∃ d ds' f f', ds = d :: ds' ∧ fs = f ++ f' ∧ OwnL R e d f ∧ OwnLL R es ds' f'
/-- In the rows H the value a is a tree that comes to r; fs: the rows in it, one by one. -/
def Own (H : List Row) : Nat → AV → AV → List Nat → Prop
  | 0, _, _, _ => False
  | n + 1, a, r, fs =>
    match a with
    | .val v => fs = [] ∧ (r = .val v ∨ (v = .slice none 0 0 ∧ ∃ sz, r = .list 0 sz []))
    | .own l k => ∃ row es f, H[l]? = some row ∧ row.es.length = k ∧ OwnLL (Own H n) row.es es f ∧ r = .list 0 row.sz es ∧ fs = l :: f
    | .sub l k lo hi => ∃ row es f, H[l]? = some row ∧ row.es.length = k ∧ OwnLL (Own H n) row.es es f ∧ r = .list 0 row.sz ((es.take hi).drop lo) ∧ fs = l :: f
    | .agg cs => ∃ ds, OwnL (Own H n) cs ds fs ∧ r = .agg ds
    | .tup cs => ∃ ds, OwnL (Own H n) cs ds fs ∧ r = .tup ds
    | _ => False

theorem OwnL.mono {R R' : AV → AV → List Nat → Prop} : ∀ {cs ds : List AV} {fs : List Nat}, (∀ a r f, (∀ l ∈ f, l ∈ fs) → R a r f → R' a r f) → OwnL R cs ds fs → OwnL R' cs ds fs
  | [], _, _, _, h => h
  | c :: cs, ds, fs, hm, h => by
    obtain ⟨d, ds', f, f', e1, e2, h1, h2⟩ := h
    subst e2
    exact ⟨d, ds', f, f', e1, rfl, hm _ _ _ (fun l hl => List.mem_append_left _ hl) h1, OwnL.mono (fun a r g hg => hm a r g fun l hl => List.mem_append_right _ (hg l hl)) h2⟩
theorem OwnLL.mono {R R' : AV → AV → List Nat → Prop} : ∀ {cs ds : List (List AV)} {fs : List Nat}, (∀ a r f, (∀ l ∈ f, l ∈ fs) → R a r f → R' a r f) → OwnLL R cs ds fs → OwnLL R' cs ds fs
  | [], _, _, _, h => h
  | c :: cs, ds, fs, hm, h => by
    obtain ⟨d, ds', f, f', e1, e2, h1, h2⟩ := h
    subst e2
    exact ⟨d, ds', f, f', e1, rfl, OwnL.mono (fun a r g hg => hm a r g fun l hl => List.mem_append_left _ (hg l hl)) h1, OwnLL.mono (fun a r g hg => hm a r g fun l hl => List.mem_append_right _ (hg l hl)) h2⟩

/-- A tree stands where its rows stand. -/
theorem Own.keep {H H' : List Row} : ∀ {n : Nat} {a r : AV} {fs : List Nat}, (∀ l ∈ fs, H'[l]? = H[l]?) → Own H n a r fs → Own H' n a r fs
  | 0, _, _, _, _, h => h
  | n + 1, a, r, fs, hk, h => by
    cases a with
    | val v => exact h
    | own l k =>
      obtain ⟨row, es, f, h1, h2, h3, h4, h5⟩ := h
      subst h5
      exact ⟨row, es, f, by rw [hk l (by simp)]; exact h1, h2, OwnLL.mono (fun a r g hg ho => Own.keep (fun l hl => hk l (List.mem_cons_of_mem _ (hg l hl))) ho) h3, h4, rfl⟩
    | sub l k lo hi =>
      obtain ⟨row, es, f, h1, h2, h3, h4, h5⟩ := h
      subst h5
      exact ⟨row, es, f, by rw [hk l (by simp)]; exact h1, h2, OwnLL.mono (fun a r g hg ho => Own.keep (fun l hl => hk l (List.mem_cons_of_mem _ (hg l hl))) ho) h3, h4, rfl⟩
    | agg cs =>
      obtain ⟨ds, h1, h2⟩ := h
      exact ⟨ds, OwnL.mono (fun a r g hg ho => Own.keep (fun l hl => hk l (hg l hl)) ho) h1, h2⟩
    | tup cs =>
      obtain ⟨ds, h1, h2⟩ := h
      exact ⟨ds, OwnL.mono (fun a r g hg ho => Own.keep (fun l hl => hk l (hg l hl)) ho) h1, h2⟩
    | _ => exact h.elim
/-- More steps do no harm. -/
theorem Own.more {H : List Row} : ∀ {n : Nat} {a r : AV} {fs : List Nat}, Own H n a r fs → Own H (n + 1) a r fs
  | 0, _, _, _, h => h.elim
  | n + 1, a, r, fs, h => by
    cases a with
    | val v => exact h
    | own l k =>
      obtain ⟨row, es, f, h1, h2, h3, h4, h5⟩ := h
      exact ⟨row, es, f, h1, h2, OwnLL.mono (fun a r g _ ho => Own.more ho) h3, h4, h5⟩
    | sub l k lo hi =>
      obtain ⟨row, es, f, h1, h2, h3, h4, h5⟩ := h
      exact ⟨row, es, f, h1, h2, OwnLL.mono (fun a r g _ ho => Own.more ho) h3, h4, h5⟩
    | agg cs =>
      obtain ⟨ds, h1, h2⟩ := h
      exact ⟨ds, OwnL.mono (fun a r g _ ho => Own.more ho) h1, h2⟩
    | tup cs =>
      obtain ⟨ds, h1, h2⟩ := h
      exact ⟨ds, OwnL.mono (fun a r g _ ho => Own.more ho) h1, h2⟩
    | _ => exact h.elim
theorem Own.up {H : List Row} {n m : Nat} {a r : AV} {fs : List Nat} (hm : n ≤ m) (h : Own H n a r fs) : Own H m a r fs := by
  induction hm with
  | refl => exact h
  | step _ ih => exact ih.more

theorem OwnL.rep {S S' : Sit} {R : AV → AV → List Nat → Prop} (hone : ∀ a x r f, Rep S a x → R a r f → Rep S' r x) : ∀ {as : List AV} {xs : List Value} {rs : List AV} {fs : List Nat}, RepL S as xs → OwnL R as rs fs → RepL S' rs xs
  | [], xs, rs, fs, r, h => by
    obtain ⟨h1, _⟩ := h; subst h1
    simpa [RepL] using r
  | a :: as, xs, rs, fs, r, h => by
    obtain ⟨d, ds', f, f', e1, e2, h1, h2⟩ := h
    subst e1
    simp only [RepL] at r ⊢
    obtain ⟨v, q, e, r2, r3⟩ := r
    exact ⟨v, q, e, hone a v d f r2 h1, OwnL.rep hone r3 h2⟩
theorem OwnL.repPre {S S' : Sit} {R : AV → AV → List Nat → Prop} (hone : ∀ a x r f, Rep S a x → R a r f → Rep S' r x) : ∀ {as : List AV} {xs : List Value} {rs : List AV} {fs : List Nat}, RepPre S as xs → OwnL R as rs fs → RepPre S' rs xs ∧ rs.length = as.length
  | [], xs, rs, fs, r, h => by
    obtain ⟨h1, _⟩ := h; subst h1
    simp [RepPre]
  | a :: as, xs, rs, fs, r, h => by
    obtain ⟨d, ds', f, f', e1, e2, h1, h2⟩ := h
    subst e1
    simp only [RepPre] at r ⊢
    obtain ⟨v, q, e, r2, r3⟩ := r
    have := OwnL.repPre hone r3 h2
    exact ⟨⟨v, q, e, hone a v d f r2 h1, this.1⟩, by simp [this.2]⟩
theorem OwnLL.rep {S S' : Sit} {R : AV → AV → List Nat → Prop} (hone : ∀ a x r f, Rep S a x → R a r f → Rep S' r x) : ∀ {es : List (List AV)} {xs : List Value} {rs : List (List AV)} {fs : List Nat}, RepLL S es xs → OwnLL R es rs fs →
    RepLL S' rs xs ∧ rs.length = es.length ∧ ∀ sz, (∀ e ∈ es, e.length = sz) → ∀ e ∈ rs, e.length = sz
  | [], xs, rs, fs, r, h => by
    obtain ⟨h1, _⟩ := h; subst h1
    simp [RepLL]
  | d :: es, xs, rs, fs, r, h => by
    obtain ⟨d', ds', f, f', e1, e2, h1, h2⟩ := h
    subst e1
    simp only [RepLL] at r ⊢
    have p1 := OwnL.repPre hone r.1 h1
    have p2 := OwnLL.rep hone r.2 h2
    refine ⟨⟨p1.1, by rw [p1.2]; exact p2.1⟩, by simp [p2.2.1], fun sz hsz e he => ?_⟩
    rcases List.mem_cons.1 he with q | q
    · subst q; rw [p1.2]; exact hsz d (by simp)
    · exact p2.2.2 sz (fun e he => hsz e (by simp [he])) e q

theorem OwnLL.len {R : AV → AV → List Nat → Prop} : ∀ {es rs : List (List AV)} {fs : List Nat}, OwnLL R es rs fs → rs.length = es.length
  | [], rs, fs, h => by obtain ⟨h, _⟩ := h; subst h; rfl
  | e :: es, rs, fs, h => by
    obtain ⟨d, ds', f, f', e1, e2, h1, h2⟩ := h
    subst e1
    simp [OwnLL.len h2]
/-- Read as a tree that is written no more. -/
theorem Own.rep {S : Sit} {h : List Row} {w : World} (m : Models S h w) : ∀ (n : Nat) (a : AV) (x : Value) (r : AV) (fs : List Nat), Rep S a x → Own h n a r fs → Rep (S.shut w) r x := by
  intro n
  induction n with
  | zero => intro a x r fs _ e; exact e.elim
  | succ n ih =>
    intro a x r fs hr e
    cases a with
    | val v =>
      obtain ⟨_, e | ⟨e1, sz, e2⟩⟩ := e
      · subst e; simpa [Rep] using hr
      · subst e1 e2
        simp only [Rep] at hr ⊢
        exact .inl ⟨trivial, trivial, _, _, hr⟩
    | agg cs =>
      obtain ⟨ds, e1, e2⟩ := e
      subst e2
      simp only [Rep] at hr ⊢
      obtain ⟨vs, e3, hr⟩ := hr
      exact ⟨vs, e3, OwnL.rep ih hr e1⟩
    | tup cs =>
      obtain ⟨ds, e1, e2⟩ := e
      subst e2
      simp only [Rep] at hr ⊢
      obtain ⟨vs, e3, hr⟩ := hr
      exact ⟨vs, e3, OwnL.rep ih hr e1⟩
    | own l k =>
      obtain ⟨row, es, f, hl, hlen, e1, e2, _⟩ := e
      subst e2
      simp only [Rep] at hr
      obtain ⟨_, i, q1, q2, q3⟩ := hr
      obtain ⟨k1, k2, k3, k4⟩ := m.rows l i row q1 hl
      have hx := q3 (by omega)
      cases hb : i.blk with
      | none =>
        rw [hb] at k4
        simp only [sliceAt, hb] at hx
        rw [k4.1] at e1
        obtain ⟨e1, _⟩ := e1; subst e1
        simp only [Rep]
        rcases hx with hx | ⟨_, p, hx⟩
        · exact .inl ⟨trivial, trivial, _, _, hx⟩
        · exact .inl ⟨trivial, trivial, _, _, hx⟩
      | some b =>
        rw [hb] at k4
        simp only [sliceAt, hb, reduceCtorEq, false_and, or_false] at hx
        by_cases hne : row.es = []
        · rw [hne] at e1 k1
          obtain ⟨e1, _⟩ := e1; subst e1
          simp only [Rep]
          rw [k1] at hx
          exact .inl ⟨trivial, trivial, _, _, hx⟩
        obtain ⟨_, c, _, j2, j3, j4, j5, j6⟩ := k4.2.cells (.inl hne)
        have p := OwnLL.rep ih j3 e1
        simp only [Rep]
        right
        have hown : S.ownsB b = true := ownsB_iff.2 ⟨l, i, q1, hb⟩
        refine ⟨b, 0, i.cap, c, by rw [hx, p.2.1, k1], by rw [p.2.1, ← k1]; exact j5, ?_, p.2.2 _ k3, .inl trivial, ?_, by simpa [Sit.shut, Sit.still] using p.1⟩
        · simp [Sit.shut, hown, j2]
        · rw [p.2.1, j4, ← k1, ← k2]
          simpa using Nat.mul_le_mul_right _ j5
    | sub l k lo hi =>
      obtain ⟨row, es, f, hl, hlen, e1, e2, _⟩ := e
      subst e2
      simp only [Rep] at hr
      obtain ⟨_, i, q1, q2, q3⟩ := hr
      obtain ⟨k1, k2, k3, k4⟩ := m.rows l i row q1 hl
      obtain ⟨g1, g2, g3⟩ := q3 (by omega)
      have hesl : es.length = row.es.length := OwnLL.len e1
      have hlen2 : ((es.take hi).drop lo).length = hi - lo := by simp; omega
      by_cases hz : hi - lo = 0
      · have hnil : (es.take hi).drop lo = [] := List.eq_nil_of_length_eq_zero (by omega)
        rw [hnil]
        simp only [Rep]
        rcases g3 with ⟨_, p, q⟩ | ⟨b, off, _, q, _⟩
        · exact .inl ⟨trivial, trivial, _, _, q⟩
        · rw [hz] at q; exact .inl ⟨trivial, trivial, _, _, q⟩
      · have hne : row.es ≠ [] := by intro q; rw [q] at hlen; simp at hlen; omega
        rcases g3 with ⟨hb, p, q⟩ | ⟨b, off, hb, q, hoff⟩
        · rw [hb] at k4; exact absurd k4.1 hne
        · rw [hb] at k4
          obtain ⟨_, c, _, j2, j3, j4, j5, j6⟩ := k4.2.cells (.inl hne)
          rw [hoff (by omega)] at q
          have p := OwnLL.rep ih j3 e1
          have p3 := p.2.2 _ k3
          have hd := RepLL.drop (RepLL.take (k := hi) p.1) (sz := row.sz) (k := lo) (fun x hx => p3 x (List.mem_of_mem_take hx))
          simp only [Rep]
          right
          have hown : S.ownsB b = true := ownsB_iff.2 ⟨l, i, q1, hb⟩
          refine ⟨b, lo * i.sz, i.cap - lo, c, by rw [q, hlen2], by rw [hlen2]; omega, ?_, fun x hx => p3 x (List.mem_of_mem_take (List.mem_of_mem_drop hx)), .inl trivial, ?_, ?_⟩
          · simp [Sit.shut, hown, j2]
          · rw [hlen2, j4, ← k2, ← Nat.add_mul]
            exact Nat.mul_le_mul_right _ (by omega)
          · rw [k2]; simpa [Sit.shut, Sit.still] using hd
    | _ => exact e.elim

/-- Arguments of a call: read only, or trees. -/
def ArgOwn (H : List Row) (a r : AV) : Prop := (a = r ∧ a.plain = true) ∨ ∃ n fs, Own H n a r fs
def ArgsOwn (H : List Row) : List AV → List AV → Prop
  | [], rs => rs = []
  | a :: as, rs => ∃ r rs', rs = r :: rs' ∧ ArgOwn H a r ∧ ArgsOwn H as rs'
theorem ArgsOwn.rep {S : Sit} {H : List Row} {w : World} (m : Models S H w) : ∀ {as rs : List AV} {xs : List Value}, ArgsOwn H as rs → RepL S as xs → RepL (S.shut w) rs xs
  | [], rs, xs, h, r => by subst h; simpa [RepL] using r
  | a :: as, rs, xs, h, r => by
    obtain ⟨d, ds, e, h1, h2⟩ := h
    subst e
    simp only [RepL] at r ⊢
    obtain ⟨v, q, e, r1, r2⟩ := r
    refine ⟨v, q, e, ?_, ArgsOwn.rep m h2 r2⟩
    rcases h1 with ⟨h1, hp⟩ | ⟨n, fs, h1⟩
    · subst h1; exact Rep.up (shut_le m) _ _ (plain_still hp r1)
    · exact Own.rep m n a v d fs r1 h1

theorem Models.shut {S : Sit} {H : List Row} {w : World} (m : Models S H w) : ∀ b c, (S.shut w).imm b = some c → ∃ E fr, w.heap[b]? = some (.cells c E fr) := by
  intro b c q
  simp only [Sit.shut] at q
  split at q
  · split at q
    · rename_i c' E fr hb
      simp at q; subst q
      exact ⟨E, fr, hb⟩
    · simp at q
  · exact m.imm b c q
theorem Glob.shut {P : Program} {S : Sit} {H : List Row} {w : World} (m : Models S H w) (g : Glob P S) : Glob P (S.shut w) := Glob.up (shut_le m) (show Glob P S.still from g)

/-- A call that reads trees and gives a plain value. -/
theorem own_call {P : Program} {f : FuncId} {as rs : List AV} {H : List Row} {v : Value} (hc : ∀ h, PureCall P f rs h (.val v)) (ha : ArgsOwn H as rs) {K : AV → List Row → Prop} (hk : K (.val v) H) : callSem P f as H K := by
  intro S w vals hm hgl hr
  have hm0 : Models (S.shut w) [] w := ⟨hm.shut, rfl, by simp [Sit.shut], by simp [Sit.shut]⟩
  refine (hc [] (fun r _ => r = .val v) rfl (S.shut w) w vals hm0 (hgl.shut hm) (ha.rep hm hr)).mono ?_
  rintro e w' ⟨v', av, S1, h1, rfl, st, hm1, rv, rfl⟩
  simp only [Rep] at rv
  subst rv
  have b : Below w.heap.size w w' := ⟨st.os, st.tape, st.output, st.size, fun k hk => st.block k hk (by rintro ⟨l, i, q, _⟩; simp [Sit.shut] at q)⟩
  exact ⟨v', .val v', S, H, rfl, Step.below b, hm.below b, by simp [Rep], hk⟩

theorem mapM_rep {S : Sit} {H : List Row} {w : World} (m : Models S H w) {n : Nat} : ∀ {as rs : List AV} {xs : List Value}, as.mapM (resolve H n) = some rs → RepL S as xs → RepL (S.shut w) rs xs :=
  fun h r => mapM_resolve (fun a x r' h1 h2 => resolve_rep m n a x r' h1 h2) r h

/-- A call that reads the call's own rows, and gives a plain value. -/
theorem frozen {P : Program} {f : FuncId} {as rs : List AV} {H : List Row} {v : Value} {n : Nat} (hc : ∀ h, PureCall P f rs h (.val v)) (ha : as.mapM (resolve H n) = some rs) : PureCall P f as H (.val v) := by
  intro K hk S w vals hm hgl hr
  have hm0 : Models (S.shut w) [] w := ⟨hm.shut, rfl, by simp [Sit.shut], by simp [Sit.shut]⟩
  refine (hc [] (fun r _ => r = .val v) rfl (S.shut w) w vals hm0 (hgl.shut hm) (mapM_rep hm ha hr)).mono ?_
  rintro e w' ⟨v', av, S1, h1, rfl, st, hm1, rv, rfl⟩
  simp only [Rep] at rv
  subst rv
  have b : Below w.heap.size w w' := ⟨st.os, st.tape, st.output, st.size, fun k hk => st.block k hk (by rintro ⟨l, i, q, _⟩; simp [Sit.shut] at q)⟩
  exact ⟨v', .val v', S, H, rfl, Step.below b, hm.below b, by simp [Rep], hk⟩
theorem res_flat {h : List Row} {n : Nat} {a : AV} (hf : a.flat = true) : resolve h (n + 1) a = some a := by
  cases a <;> first | rfl | simp [AV.flat] at hf
theorem res_box {H : List Row} {l : Nat} {E : Tag} {sz n : Nat} {cs : List AV} (hl : H[l]? = some ⟨E, sz, [cs]⟩) (hf : cs.all AV.flat = true) (hn : 0 < cs.length) : resolve H (n + 2) (.ptr l 1 0 0) = some (.iptr cs) := by
  have e : resolve H (n + 2) (.ptr l 1 0 0) = match H[l]? with
      | some r => if r.es.length = 1 then (match r.es[0]? with | some e => if 0 < e.length then ((e.drop 0).mapM (resolve H (n + 1))).map .iptr else none | none => none) else none
      | none => none := rfl
  rw [e, hl]
  simp only [List.length_cons, List.length_nil, Nat.zero_add, if_true, List.getElem?_cons_zero, hn, List.drop_zero]
  rw [mapM_flat hf]; rfl
theorem res_fn {H : List Row} {n : Nat} {f : FuncId} {p p' q q' : List AV} (h1 : p.mapM (resolve H n) = some p') (h2 : q.mapM (resolve H n) = some q') : resolve H (n + 1) (.fn f p q) = some (.fn f p' q') := by
  have e : resolve H (n + 1) (.fn f p q) = match p.mapM (resolve H n), q.mapM (resolve H n) with
      | some p', some q' => some (.fn f p' q')
      | _, _ => none := rfl
  rw [e, h1, h2]
theorem mapM_one {H : List Row} {n : Nat} {a r : AV} (h : resolve H n a = some r) : [a].mapM (resolve H n) = some [r] := by
  rw [List.mapM_cons, h]; rfl
theorem mapM_more {H : List Row} {n : Nat} {a r : AV} {as rs : List AV} (h : resolve H n a = some r) (h2 : as.mapM (resolve H n) = some rs) : (a :: as).mapM (resolve H n) = some (r :: rs) := by
  rw [List.mapM_cons, h, h2]; rfl

/-- A result that shares no memory: a tree of new rows. -/
structure Fresh (base : Nat) (H : List Row) (a r : AV) : Prop where
  out : ∃ n fs, Own H n a r fs ∧ fs.Nodup ∧ ∀ l ∈ fs, base ≤ l
def FreshCall (P : Program) (f : FuncId) (args : List AV) (r : AV) (Q : AV → Prop) : Prop :=
  ∀ (h : List Row) (K : AV → List Row → Prop), (∀ av hn, Fresh h.length (h ++ hn) av r → Q av → K av (h ++ hn)) → callSem P f args h K

/-- The rows of a tree: what lies in them is of the tree. -/
theorem OwnL.inner {H : List Row} {R : AV → AV → List Nat → Prop} (hone : ∀ a r f, R a r f → ∀ l ∈ f, ∃ row m es g, H[l]? = some row ∧ OwnLL (Own H m) row.es es g ∧ ∀ x ∈ g, x ∈ f) : ∀ {as rs : List AV} {fs : List Nat}, OwnL R as rs fs → ∀ l ∈ fs, ∃ row m es g, H[l]? = some row ∧ OwnLL (Own H m) row.es es g ∧ ∀ x ∈ g, x ∈ fs
  | [], rs, fs, h, l, hl => by obtain ⟨_, h⟩ := h; subst h; simp at hl
  | a :: as, rs, fs, h, l, hl => by
    obtain ⟨d, ds', f, f', e1, e2, h1, h2⟩ := h
    subst e2
    rcases List.mem_append.1 hl with q | q
    · obtain ⟨row, m, es, g, q1, q2, q3⟩ := hone a d f h1 l q
      exact ⟨row, m, es, g, q1, q2, fun x hx => List.mem_append_left _ (q3 x hx)⟩
    · obtain ⟨row, m, es, g, q1, q2, q3⟩ := OwnL.inner hone h2 l q
      exact ⟨row, m, es, g, q1, q2, fun x hx => List.mem_append_right _ (q3 x hx)⟩
theorem OwnLL.inner {H : List Row} {R : AV → AV → List Nat → Prop} (hone : ∀ a r f, R a r f → ∀ l ∈ f, ∃ row m es g, H[l]? = some row ∧ OwnLL (Own H m) row.es es g ∧ ∀ x ∈ g, x ∈ f) : ∀ {as rs : List (List AV)} {fs : List Nat}, OwnLL R as rs fs → ∀ l ∈ fs, ∃ row m es g, H[l]? = some row ∧ OwnLL (Own H m) row.es es g ∧ ∀ x ∈ g, x ∈ fs
  | [], rs, fs, h, l, hl => by obtain ⟨_, h⟩ := h; subst h; simp at hl
  | a :: as, rs, fs, h, l, hl => by
    obtain ⟨d, ds', f, f', e1, e2, h1, h2⟩ := h
    subst e2
    rcases List.mem_append.1 hl with q | q
    · obtain ⟨row, m, es, g, q1, q2, q3⟩ := OwnL.inner hone h1 l q
      exact ⟨row, m, es, g, q1, q2, fun x hx => List.mem_append_left _ (q3 x hx)⟩
    · obtain ⟨row, m, es, g, q1, q2, q3⟩ := OwnLL.inner hone h2 l q
      exact ⟨row, m, es, g, q1, q2, fun x hx => List.mem_append_right _ (q3 x hx)⟩
theorem Own.inner {H : List Row} : ∀ {n : Nat} {a r : AV} {fs : List Nat}, Own H n a r fs → ∀ l ∈ fs, ∃ row m es g, H[l]? = some row ∧ OwnLL (Own H m) row.es es g ∧ ∀ x ∈ g, x ∈ fs
  | 0, _, _, _, h => h.elim
  | n + 1, a, r, fs, h => by
    intro l hl
    cases a with
    | val v => obtain ⟨h, _⟩ := h; subst h; simp at hl
    | own l' k =>
      obtain ⟨row, es, f, h1, h2, h3, h4, h5⟩ := h
      subst h5
      rcases List.mem_cons.1 hl with q | q
      · subst q; exact ⟨row, n, es, f, h1, h3, fun x hx => List.mem_cons_of_mem _ hx⟩
      · obtain ⟨row', m, es', g, q1, q2, q3⟩ := OwnLL.inner (fun a r f ho => Own.inner ho) h3 l q
        exact ⟨row', m, es', g, q1, q2, fun x hx => List.mem_cons_of_mem _ (q3 x hx)⟩
    | sub l' k lo hi =>
      obtain ⟨row, es, f, h1, h2, h3, h4, h5⟩ := h
      subst h5
      rcases List.mem_cons.1 hl with q | q
      · subst q; exact ⟨row, n, es, f, h1, h3, fun x hx => List.mem_cons_of_mem _ hx⟩
      · obtain ⟨row', m, es', g, q1, q2, q3⟩ := OwnLL.inner (fun a r f ho => Own.inner ho) h3 l q
        exact ⟨row', m, es', g, q1, q2, fun x hx => List.mem_cons_of_mem _ (q3 x hx)⟩
    | agg cs =>
      obtain ⟨ds, h1, h2⟩ := h
      exact OwnL.inner (fun a r f ho => Own.inner ho) h1 l hl
    | tup cs =>
      obtain ⟨ds, h1, h2⟩ := h
      exact OwnL.inner (fun a r f ho => Own.inner ho) h1 l hl
    | _ => exact h.elim

theorem OwnL.trans {S S' : Sit} {R : AV → AV → List Nat → Prop} : ∀ {as rs : List AV} {fs : List Nat} {xs : List Value}, (∀ a x r f, (∀ l ∈ f, l ∈ fs) → R a r f → Rep S a x → Rep S' a x) → OwnL R as rs fs → RepL S as xs → RepL S' as xs
  | [], rs, fs, xs, _, h, r => by simpa [RepL] using r
  | a :: as, rs, fs, xs, hone, h, r => by
    obtain ⟨d, ds', f, f', e1, e2, h1, h2⟩ := h
    subst e2
    simp only [RepL] at r ⊢
    obtain ⟨v, q, e, r2, r3⟩ := r
    exact ⟨v, q, e, hone a v d f (fun l hl => List.mem_append_left _ hl) h1 r2, OwnL.trans (fun a x r g hg => hone a x r g fun l hl => List.mem_append_right _ (hg l hl)) h2 r3⟩
theorem OwnL.transPre {S S' : Sit} {R : AV → AV → List Nat → Prop} : ∀ {as rs : List AV} {fs : List Nat} {xs : List Value}, (∀ a x r f, (∀ l ∈ f, l ∈ fs) → R a r f → Rep S a x → Rep S' a x) → OwnL R as rs fs → RepPre S as xs → RepPre S' as xs
  | [], rs, fs, xs, _, h, r => by simp [RepPre]
  | a :: as, rs, fs, xs, hone, h, r => by
    obtain ⟨d, ds', f, f', e1, e2, h1, h2⟩ := h
    subst e2
    simp only [RepPre] at r ⊢
    obtain ⟨v, q, e, r2, r3⟩ := r
    exact ⟨v, q, e, hone a v d f (fun l hl => List.mem_append_left _ hl) h1 r2, OwnL.transPre (fun a x r g hg => hone a x r g fun l hl => List.mem_append_right _ (hg l hl)) h2 r3⟩
theorem OwnLL.trans {S S' : Sit} {R : AV → AV → List Nat → Prop} : ∀ {as rs : List (List AV)} {fs : List Nat} {xs : List Value}, (∀ a x r f, (∀ l ∈ f, l ∈ fs) → R a r f → Rep S a x → Rep S' a x) → OwnLL R as rs fs → RepLL S as xs → RepLL S' as xs
  | [], rs, fs, xs, _, h, r => by simp [RepLL]
  | a :: as, rs, fs, xs, hone, h, r => by
    obtain ⟨d, ds', f, f', e1, e2, h1, h2⟩ := h
    subst e2
    simp only [RepLL] at r ⊢
    exact ⟨OwnL.transPre (fun a x r g hg => hone a x r g fun l hl => List.mem_append_left _ (hg l hl)) h1 r.1, OwnLL.trans (fun a x r g hg => hone a x r g fun l hl => List.mem_append_right _ (hg l hl)) h2 r.2⟩
theorem Own.trans {S S' : Sit} {H : List Row} : ∀ {n : Nat} {a r : AV} {fs : List Nat} {x : Value}, (∀ l ∈ fs, S'.rows[l]? = S.rows[l]?) → Own H n a r fs → Rep S a x → Rep S' a x
  | 0, _, _, _, _, _, h, _ => h.elim
  | n + 1, a, r, fs, x, hk, h, hr => by
    cases a with
    | val v => simpa [Rep] using hr
    | own l k =>
      obtain ⟨row, es, f, h1, h2, h3, h4, h5⟩ := h
      subst h5
      simp only [Rep] at hr ⊢
      rw [hk l (by simp)]
      exact hr
    | sub l k lo hi =>
      obtain ⟨row, es, f, h1, h2, h3, h4, h5⟩ := h
      subst h5
      simp only [Rep] at hr ⊢
      rw [hk l (by simp)]
      exact hr
    | agg cs =>
      obtain ⟨ds, h1, h2⟩ := h
      simp only [Rep] at hr ⊢
      obtain ⟨vs, e, hr⟩ := hr
      exact ⟨vs, e, OwnL.trans (fun a x r g hg ho hx => Own.trans (fun l hl => hk l (hg l hl)) ho hx) h1 hr⟩
    | tup cs =>
      obtain ⟨ds, h1, h2⟩ := h
      simp only [Rep] at hr ⊢
      obtain ⟨vs, e, hr⟩ := hr
      exact ⟨vs, e, OwnL.trans (fun a x r g hg ho hx => Own.trans (fun l hl => hk l (hg l hl)) ho hx) h1 hr⟩
    | _ => exact h.elim

def blankI : Info := ⟨0, none, 0, 0⟩
def blankR : Row := ⟨0, 0, []⟩
/-- Rows that are not of the tree are given up. -/
def keepR (fs : List Nat) (base : Nat) (hn : List Row) : List Row := hn.mapIdx fun i r => if fs.contains (base + i) then r else blankR
def keepI (fs : List Nat) (base : Nat) (hn : List Info) : List Info := hn.mapIdx fun i r => if fs.contains (base + i) then r else blankI

/-- A CALL THAT READS TREES AND GIVES A NEW TREE. -/
theorem fresh_argsR {P : Program} {f : FuncId} {as rs : List AV} {H : List Row} {r : AV} {Q : AV → List Row → Prop} (hc : ∀ (h : List Row) (K : AV → List Row → Prop), (∀ av hn, Fresh h.length (h ++ hn) av r → Q av (h ++ hn) → K av (h ++ hn)) → callSem P f rs h K) (hst : ∀ (n : Nat) (av : AV) (fs : List Nat) (X Y : List Row), Own X n av r fs → (∀ l ∈ fs, Y[l]? = X[l]?) → Q av X → Q av Y)
    (ha : ∀ (S : Sit) (w : World) (xs : List Value), Models S H w → RepL S as xs → RepL (S.shut w) rs xs) {K : AV → List Row → Prop} (hk : ∀ av hn, Fresh H.length (H ++ hn) av r → Q av (H ++ hn) → K av (H ++ hn)) : callSem P f as H K := by
  intro S w vals hm hgl hr
  have hlen := hm.len
  let S0 : Sit := { imm := (S.shut w).imm, rows := List.replicate H.length blankI }
  have hle0 : (S.shut w).le S0 := ⟨fun _ _ e => e, by simp [Sit.shut]⟩
  have hm0 : Models S0 (List.replicate H.length blankR) w := by
    refine ⟨hm.shut, by simp [S0], fun l i row q1 q2 => ?_, fun l l' i i' b q1 _ q2 _ => ?_⟩
    · have e1 := List.eq_of_mem_replicate (List.mem_of_getElem? q1)
      have e2 := List.eq_of_mem_replicate (List.mem_of_getElem? q2)
      subst e1 e2
      exact ⟨rfl, rfl, by simp [blankR], rfl, rfl⟩
    · have e1 := List.eq_of_mem_replicate (List.mem_of_getElem? q1)
      subst e1; simp [blankI] at q2
  have hrep : RepL S0 rs vals.toList := RepL.up hle0 _ _ (ha S w _ hm hr)
  refine (hc (List.replicate H.length blankR) (fun av h' => ∃ hn, h' = List.replicate H.length blankR ++ hn ∧ Fresh H.length (List.replicate H.length blankR ++ hn) av r ∧ Q av (List.replicate H.length blankR ++ hn)) (fun av hn hf hq => ⟨hn, rfl, by simpa using hf, hq⟩) S0 w vals hm0 ((hgl.shut hm).up hle0) hrep).mono ?_
  rintro e w' ⟨v, av, S1, h1, rfl, st, hm1, rv, hn, rfl, ⟨n, fs, ho, hnd, hge⟩, hQ⟩
  have hno : ∀ b, ¬ S0.owns b := by
    rintro b ⟨l, i, q1, q2⟩
    have e1 := List.eq_of_mem_replicate (List.mem_of_getElem? q1)
    subst e1; simp [blankI] at q2
  have hb : Below w.heap.size w w' := ⟨st.os, st.tape, st.output, st.size, fun k hk => st.block k hk (hno k)⟩
  have hnew : ∀ b, S1.owns b → w.heap.size ≤ b := fun b hb => (st.ownNew b hb).resolve_left (hno b)
  have hl1 : S1.rows.length = H.length + hn.length := by rw [hm1.len]; simp
  have hm' := hm.below hb
  let S2 : Sit := { imm := S.imm, rows := S.rows ++ keepI fs H.length (S1.rows.drop H.length) }
  have hrows : ∀ l ∈ fs, S2.rows[l]? = S1.rows[l]? := by
    intro l hl
    have hg := hge l hl
    show (S.rows ++ keepI fs H.length (S1.rows.drop H.length))[l]? = _
    rw [List.getElem?_append_right (by omega), hlen]
    simp only [keepI, List.getElem?_mapIdx, List.getElem?_drop]
    have e : H.length + (l - H.length) = l := by omega
    rw [e]
    cases S1.rows[l]? with
    | none => rfl
    | some i => simp [hl]
  have hR : ∀ l ∈ fs, (H ++ keepR fs H.length hn)[l]? = (List.replicate H.length blankR ++ hn)[l]? := by
    intro l hl
    have hg := hge l hl
    rw [List.getElem?_append_right hg, List.getElem?_append_right (by simpa using hg)]
    simp only [keepR, List.getElem?_mapIdx, List.length_replicate]
    have e : H.length + (l - H.length) = l := by omega
    rw [e]
    cases hn[l - H.length]? with
    | none => rfl
    | some i => simp [hl]
  have hS2 : S.le S2 := ⟨fun _ _ e => e, fun l i e => ⟨i, by
    show (S.rows ++ _)[l]? = _
    rw [List.getElem?_append_left (List.getElem?_eq_some_iff.1 e).1]; exact e, Nat.le_refl _, fun _ => rfl⟩⟩
  -- a row of S2 is one of S, or one of the tree's, or blank
  have hcase : ∀ (l : Nat) (i : Info), S2.rows[l]? = some i → (l < H.length ∧ S.rows[l]? = some i) ∨ (H.length ≤ l ∧ l ∈ fs ∧ S1.rows[l]? = some i) ∨ (H.length ≤ l ∧ l ∉ fs ∧ i = blankI) := by
    intro l i q
    by_cases hlt : l < H.length
    · left
      refine ⟨hlt, ?_⟩
      have : (S.rows ++ keepI fs H.length (S1.rows.drop H.length))[l]? = some i := q
      rwa [List.getElem?_append_left (by omega)] at this
    · right
      by_cases hf : l ∈ fs
      · left; exact ⟨by omega, hf, by rw [← hrows l hf]; exact q⟩
      · right
        refine ⟨by omega, hf, ?_⟩
        have : (S.rows ++ keepI fs H.length (S1.rows.drop H.length))[l]? = some i := q
        rw [List.getElem?_append_right (by omega), hlen] at this
        simp only [keepI, List.getElem?_mapIdx, List.getElem?_drop, Option.map_eq_some_iff] at this
        obtain ⟨j, _, e⟩ := this
        have e' : H.length + (l - H.length) = l := by omega
        rw [e'] at e
        simp [hf] at e
        exact e.symm
  have hown2 : ∀ b, S2.owns b → S.owns b ∨ (w.heap.size ≤ b) := by
    rintro b ⟨l, i, q1, q2⟩
    rcases hcase l i q1 with ⟨_, q⟩ | ⟨_, _, q⟩ | ⟨_, _, q⟩
    · exact .inl ⟨l, i, q, q2⟩
    · exact .inr (hnew b ⟨l, i, q, q2⟩)
    · subst q; simp [blankI] at q2
  have hm2 : Models S2 (H ++ keepR fs H.length hn) w' := by
    refine ⟨hm'.imm, by simp only [S2, List.length_append, keepI, keepR, List.length_mapIdx, List.length_drop, hl1, hlen]; omega, fun l i row q1 q2 => ?_, fun l l' i i' b q1 q1' q2 q2' => ?_⟩
    · rcases hcase l i q1 with ⟨hlt, q⟩ | ⟨hge', hf, q⟩ | ⟨hge', hf, q⟩
      · rw [List.getElem?_append_left hlt] at q2
        obtain ⟨k1, k2, k3, k4⟩ := hm'.rows l i row q q2
        refine ⟨k1, k2, k3, ?_⟩
        cases hbk : i.blk with
        | none => rw [hbk] at k4; exact k4
        | some b =>
          rw [hbk] at k4
          exact ⟨k4.1, k4.2.le hS2 rfl⟩
      · rw [hR l hf] at q2
        obtain ⟨k1, k2, k3, k4⟩ := hm1.rows l i row q q2
        refine ⟨k1, k2, k3, ?_⟩
        cases hbk : i.blk with
        | none => rw [hbk] at k4; exact k4
        | some b =>
          rw [hbk] at k4
          have hbig := hnew b ⟨l, i, q, hbk⟩
          refine ⟨?_, ?_⟩
          · cases hi : S.imm b with
            | none => rfl
            | some d => have := hm.immLt hi; omega
          · have k5 := k4.2
            unfold Stored at k5 ⊢
            split at k5
            case h_2 => exact k5
            case h_1 =>
              obtain ⟨c, j2, j3, j4⟩ := k5
              refine ⟨c, j2, ?_, j4⟩
              obtain ⟨row', m, es, g, p1, p2, p3⟩ := ho.inner l hf
              rw [q2] at p1
              obtain rfl := Option.some.inj p1
              exact OwnLL.trans (fun a x r g' hg' hoa hx => Own.trans (fun l' hl' => hrows l' (p3 l' (hg' l' hl'))) hoa hx) p2 j3
            case h_3 =>
              obtain ⟨⟨c, j2, j3, j4⟩, j5⟩ := k5
              refine ⟨⟨c, j2, ?_, j4⟩, j5⟩
              obtain ⟨row', m, es, g, p1, p2, p3⟩ := ho.inner l hf
              rw [q2] at p1
              obtain rfl := Option.some.inj p1
              exact OwnLL.trans (fun a x r g' hg' hoa hx => Own.trans (fun l' hl' => hrows l' (p3 l' (hg' l' hl'))) hoa hx) p2 j3
      · subst q
        rw [List.getElem?_append_right hge'] at q2
        simp only [keepR, List.getElem?_mapIdx, Option.map_eq_some_iff] at q2
        obtain ⟨j, _, e⟩ := q2
        have e' : H.length + (l - H.length) = l := by omega
        rw [e'] at e
        simp [hf] at e
        subst e
        exact ⟨rfl, rfl, by simp [blankR], rfl, rfl⟩
    · rcases hcase l i q1 with ⟨_, q⟩ | ⟨_, _, q⟩ | ⟨_, _, q⟩ <;> rcases hcase l' i' q1' with ⟨_, q'⟩ | ⟨_, _, q'⟩ | ⟨_, _, q'⟩
      · exact hm.one l l' i i' b q q' q2 q2'
      · have h1 := hm.ownLt ⟨l, i, q, q2⟩
        have h2 := hnew b ⟨l', i', q', q2'⟩
        omega
      · subst q'; simp [blankI] at q2'
      · have h1 := hm.ownLt ⟨l', i', q', q2'⟩
        have h2 := hnew b ⟨l, i, q, q2⟩
        omega
      · exact hm1.one l l' i i' b q q' q2 q2'
      · subst q'; simp [blankI] at q2'
      · subst q; simp [blankI] at q2
      · subst q; simp [blankI] at q2
      · subst q; simp [blankI] at q2
  refine ⟨v, av, S2, H ++ keepR fs H.length hn, rfl, ⟨hS2, hb.os, hb.tape, hb.output, hb.size, fun b hlt _ => hb.block b hlt, hown2, fun b c q => .inl q⟩, hm2, Own.trans hrows ho rv, hk av _ ⟨n, fs, ho.keep hR, hnd, hge⟩ (hst n av fs _ _ ho hR hQ)⟩
theorem fresh_args {P : Program} {f : FuncId} {as rs : List AV} {H : List Row} {r : AV} {Q : AV → Prop} (hc : FreshCall P f rs r Q) (ha : ∀ (S : Sit) (w : World) (xs : List Value), Models S H w → RepL S as xs → RepL (S.shut w) rs xs) {K : AV → List Row → Prop} (hk : ∀ av hn, Fresh H.length (H ++ hn) av r → Q av → K av (H ++ hn)) : callSem P f as H K := fresh_argsR (Q := fun a _ => Q a) hc (fun _ _ _ _ _ _ _ q => q) ha hk
theorem fresh_own {P : Program} {f : FuncId} {as rs : List AV} {H : List Row} {r : AV} {Q : AV → Prop} (hc : FreshCall P f rs r Q) (ha : ArgsOwn H as rs) {K : AV → List Row → Prop} (hk : ∀ av hn, Fresh H.length (H ++ hn) av r → Q av → K av (H ++ hn)) : callSem P f as H K :=
  fresh_args hc (fun S w xs hm hr => ha.rep hm hr) hk
theorem fresh_res {P : Program} {f : FuncId} {as rs : List AV} {H : List Row} {r : AV} {Q : AV → Prop} {n : Nat} (hc : FreshCall P f rs r Q) (ha : as.mapM (resolve H n) = some rs) {K : AV → List Row → Prop} (hk : ∀ av hn, Fresh H.length (H ++ hn) av r → Q av → K av (H ++ hn)) : callSem P f as H K :=
  fresh_args hc (fun S w xs hm hr => mapM_rep hm ha hr) hk
/-- The way to such a contract: the code is run over whatever rows there are. -/
theorem fresh_fn {P : Program} {f : FuncId} {fn : Func} {lf : LF} {args : List AV} {r : AV} {Q : AV → Prop} (hmx : P.follows .mixedOrders = true) (hf : P.funcs[f]? = some fn) (hl : LowF P fn lf) (hn : args.length = lf.np)
    (hw : ∀ h : List Row, Ex P lf.N (fnPost lf.res fun av h' => ∃ hn, h' = h ++ hn ∧ Fresh h.length (h ++ hn) av r ∧ Q av) lf.body [] (initT args) h) : FreshCall P f args r Q := by
  intro h K hk
  refine (call_of_fnWp hmx hf hl (fnWp_of hn (hw h))).mono ?_
  rintro a h' ⟨hn, rfl, h1, h2⟩
  exact hk a hn h1 h2
end Go.AW

namespace Go.AW

/-- A text of these bytes. -/
def txt (l : List UInt8) : ByteArray := ⟨l.toArray⟩
theorem txt_of (s : ByteArray) : s = txt s.data.toList := by cases s; rfl
theorem txt_lit (l : List UInt8) : (⟨l.toArray⟩ : ByteArray) = txt l := rfl
theorem txt_size (l : List UInt8) : (txt l).size = l.length := by simp [txt, ByteArray.size]
theorem txt_data (l : List UInt8) : (txt l).data.toList = l := by simp [txt]
theorem txt_toList (l : List UInt8) : (txt l).toList = l := by rw [toList_data, txt_data]
theorem txt_inj (a b : List UInt8) : (txt a = txt b) = (a = b) := by
  apply propext; constructor
  · intro h; have := congrArg (fun x => x.data.toList) h; simpa [txt_data] using this
  · intro h; rw [h]
theorem txt_get (l : List UInt8) (i : Nat) : (txt l)[i]? = l[i]? := by
  by_cases h : i < l.length
  · rw [getElem?_pos (txt l) i (by rw [txt_size]; exact h), List.getElem?_eq_getElem h]
    congr 1
  · rw [getElem?_neg (txt l) i (by rw [txt_size]; exact h), List.getElem?_eq_none (by omega)]
theorem txt_extract (l : List UInt8) (i j : Nat) : (txt l).extract i j = txt ((l.take j).drop i) := by
  rw [txt_of ((txt l).extract i j)]
  congr 1
  rw [ByteArray.data_extract]
  simp [txt, List.extract_eq_drop_take', ]
theorem txt_app (a b : List UInt8) : txt a ++ txt b = txt (a ++ b) := by
  rw [txt_of (txt a ++ txt b)]
  congr 1
theorem bin_sadd (q : Bool) (a b : List UInt8) (h : a.length + b.length ≤ 9223372036854775807) : binEval .add q (.val (.string (txt a))) (.val (.string (txt b))) = some (.val (.string (txt (a ++ b)))) := by
  simp only [binEval, binOp, Op.stringOp, txt_size]
  have h' : ¬ (((a.length + b.length : Nat) : Int) > IntKind.i64.max) := by
    have : IntKind.i64.max = 9223372036854775807 := by decide
    rw [this]; omega
  rw [if_neg h', txt_app]
  rfl
theorem bin_quo (q : Bool) (a b : Int) (hb : b ≠ 0) : binEval .quo q (.val (.int .i64 a)) (.val (.int .i64 b)) = some (.val (.int .i64 (IntKind.i64.wrap (a.tdiv b)))) := by
  have : binEval .quo q (.val (.int .i64 a)) (.val (.int .i64 b)) = purely (Op.intDiv .quo .i64 a b) := rfl
  rw [this, Op.intDiv, if_neg hb]; rfl
theorem bin_rem (q : Bool) (a b : Int) (hb : b ≠ 0) : binEval .rem q (.val (.int .i64 a)) (.val (.int .i64 b)) = some (.val (.int .i64 (a.tmod b))) := by
  have : binEval .rem q (.val (.int .i64 a)) (.val (.int .i64 b)) = purely (Op.intDiv .rem .i64 a b) := rfl
  rw [this, Op.intDiv, if_neg hb]; rfl
theorem bin_sub8 (q : Bool) (a b : Int) : binEval .sub q (.val (.int .u8 a)) (.val (.int .u8 b)) = some (.val (.int .u8 (IntKind.u8.wrap (a - b)))) := rfl
theorem wrap_u8_in {n : Int} (h1 : 0 ≤ n) (h2 : n ≤ 255) : IntKind.u8.wrap n = n := by
  rw [IntKind.wrap_u8]; omega
theorem tdiv_pos {a b : Int} (h : 0 ≤ a) : a.tdiv b = a / b := Int.tdiv_eq_ediv_of_nonneg h
theorem tmod_pos {a b : Int} (h : 0 ≤ a) : a.tmod b = a % b := Int.tmod_eq_emod_of_nonneg h
theorem u8_lt (b : UInt8) : b.toNat < 256 := b.toNat_lt
theorem u8_eq (b c : UInt8) : (((b.toNat : Nat) : Int) = ((c.toNat : Nat) : Int)) = (b = c) := by
  apply propext; constructor
  · intro h; exact UInt8.toNat_inj.1 (by omega)
  · intro h; rw [h]
theorem asByte_u8 (b : UInt8) : asByte [.val (.int .u8 b.toNat)] = some b := by
  simp [asByte]
theorem asByte_int {n : Int} (h1 : 0 ≤ n) (h2 : n ≤ 255) : asByte [.val (.int .u8 n)] = some (UInt8.ofNat n.toNat) := by
  simp only [asByte]
  have : ((UInt8.ofNat n.toNat).toNat : Int) = n := by
    rw [UInt8.toNat_ofNat']; omega
  rw [if_pos this]
theorem byteCells_get (l : List UInt8) (i : Nat) : (u8Cells l)[i]? = (l[i]?).map fun b => [.val (.int .u8 b.toNat)] := by simp [u8Cells]
theorem byteCells_len (l : List UInt8) : (u8Cells l).length = l.length := by simp [u8Cells]
theorem mapM_bytes : ∀ (l : List UInt8), (u8Cells l).mapM asByte = some l
  | [] => rfl
  | b :: l => by
    have := mapM_bytes l
    simp only [u8Cells, List.map_cons, List.mapM_cons] at this ⊢
    rw [asByte_u8]
    simp [this]
theorem drop_at {α : Type} (l : List α) (k : Nat) (h : k < l.length) : l.drop k = l[k] :: l.drop (k + 1) := List.drop_eq_getElem_cons h
theorem ite_nle {α : Type} {a b : Nat} {x y : α} (h : a ≤ b) : (if a ≤ b then x else y) = x := if_pos h
theorem ite_ile {α : Type} {a b : Int} {x y : α} (h : a ≤ b) : (if a ≤ b then x else y) = x := if_pos h
theorem ite_nle2 {α : Type} {a b c d : Nat} {x y : α} (h : a ≤ b) (h2 : c ≤ d) : (if a ≤ b ∧ c ≤ d then x else y) = x := if_pos ⟨h, h2⟩
attribute [go_sem] List.getElem_cons_zero List.getElem_cons_succ
theorem all_one {p : List AV → Prop} (x : List AV) : (∀ e ∈ [x], p e) = p x := by simp
theorem range1 : List.range 1 = [0] := rfl
theorem range2 : List.range 2 = [0, 1] := rfl
theorem range3 : List.range 3 = [0, 1, 2] := rfl
section
variable {P : Program} {N : Nat} {Q : Post} {t : Nat → AV} {h : List Row}
theorem ExK_ret : ∀ (k : List Fr) (t : Nat → AV) (h : List Row), ExK P N Q k .ret t h = Q .ret t h
  | [], t, h => ExK_nil .ret
  | .seq b :: k, t, h => by rw [ExK_seq_ret, ExK_ret k]
  | .blk i :: k, t, h => by rw [ExK_blk_ret, ExK_ret k]
  | .loop I n :: k, t, h => by rw [ExK_loop_ret, ExK_ret k]
/-- A loop in its block: rounds, and where it is left (E); then what follows, once. -/
theorem Ex_loop_out {b : LC} {id : Nat} {k : List Fr} (I : Nat → (Nat → AV) → List Row → Prop) (n : Nat) (E : (Nat → AV) → List Row → Prop) (h0 : I n t h)
    (hr : ∀ (J : Nat → (Nat → AV) → List Row → Prop), (∀ m t h, I m t h → J m t h) → ∀ (k' : List Fr), (∀ t h, E t h → ExK P N Q k' .normal t h) → ∀ n t h, I n t h → Ex P N Q b (.loop J n :: .blk id :: k') t h)
    (hx : ∀ t h, E t h → ExK P N Q k .normal t h) : Ex P N Q (.loop b) (.blk id :: k) t h :=
  Ex_loop I n h0 fun J hJ n t h hi => hr J hJ k hx n t h hi
end
theorem range0 : List.range 0 = [] := rfl
attribute [go_sem] range0 srcOf all_one range1 range2 range3 AV.flat List.mapM_cons
attribute [go_sem] ite_nle ite_ile ite_nle2 txt_lit txt_size txt_data txt_toList txt_inj txt_get txt_extract bin_sadd bin_quo bin_rem bin_mul bin_sub8 wrap_u8_in tdiv_pos tmod_pos asByte_u8 asByte_int byteCells_get byteCells_len un_neg
theorem RepL_vals' (S : Sit) : ∀ vs : List Value, RepL S (vs.map AV.val) vs
  | [] => by simp [RepL]
  | v :: vs => by simp only [List.map_cons, RepL]; exact ⟨v, vs, rfl, by simp [Rep], RepL_vals' S vs⟩
/-- A contract of the shelf that gives several plain values. -/
theorem shelf_tup {P : Program} {f : FuncId} {vals us : List Value}
    (hc : ∀ w, (∀ p ∈ tabs, (P.globalNamed p.1).isSome = true → w.var? P p.1 = some p.2) → Calls P f vals.toArray w fun e w' => e = .returned (.tuple us.toArray) ∧ RowKit.Below w.heap.size w w') (h : List Row) : PureCall P f (vals.map AV.val) h (.tup (us.map AV.val)) := by
  intro K hk S w xs hm hgl hr
  have e := RepL_valsM hr
  have e' : xs = vals.toArray := by cases xs; simp at e; rw [e]
  subst e'
  refine (hc w ?_).mono ?_
  · intro p hp hs
    obtain ⟨g, hg⟩ := Option.isSome_iff_exists.1 hs
    obtain ⟨E, fr, hw⟩ := hm.imm g p.2 (hgl.1 p hp g hg)
    simp only [World.var?, hg, Option.bind_some, hw]
  · rintro e w' ⟨rfl, b⟩
    exact ⟨_, .tup (us.map AV.val), S, h, rfl, Step.below b, hm.below b, by simp only [Rep]; exact ⟨_, rfl, by simpa using RepL_vals' S us⟩, hk⟩
end Go.AW

namespace Go.AW
open Go.RowKit (Below)

/-- Values that name no memory. -/
def AV.solid : AV → Bool
  | .val _ => true
  | .tup cs => cs.all fun | .val _ => true | _ => false
  | _ => false
theorem solidL_any {S S' : Sit} : ∀ {cs : List AV} {xs : List Value}, (cs.all fun | .val _ => true | _ => false) = true → RepL S cs xs → RepL S' cs xs
  | [], xs, _, r => by simpa [RepL] using r
  | c :: cs, xs, h, r => by
    simp only [List.all_cons, Bool.and_eq_true] at h
    simp only [RepL] at r ⊢
    obtain ⟨v, q, e, r1, r2⟩ := r
    refine ⟨v, q, e, ?_, solidL_any h.2 r2⟩
    cases c with
    | val u => simpa [Rep] using r1
    | _ => simp at h
theorem solid_any {S S' : Sit} {a : AV} {x : Value} (h : a.solid = true) (r : Rep S a x) : Rep S' a x := by
  cases a with
  | val v => simpa [Rep] using r
  | tup cs =>
    simp only [Rep] at r ⊢
    obtain ⟨vs, e, r⟩ := r
    exact ⟨vs, e, solidL_any h r⟩
  | _ => simp [AV.solid] at h
/-- A call that reads the call's own rows, and gives plain values. -/
theorem frozenR {P : Program} {f : FuncId} {as rs : List AV} {H : List Row} {r : AV} {n : Nat} (hs : r.solid = true) (hc : ∀ h, PureCall P f rs h r) (ha : as.mapM (resolve H n) = some rs) : PureCall P f as H r := by
  intro K hk S w vals hm hgl hr
  have hm0 : Models (S.shut w) [] w := ⟨hm.shut, rfl, by simp [Sit.shut], by simp [Sit.shut]⟩
  refine (hc [] (fun q _ => q = r) rfl (S.shut w) w vals hm0 (hgl.shut hm) (mapM_rep hm ha hr)).mono ?_
  rintro e w' ⟨v', av, S1, h1, rfl, st, hm1, rv, rfl⟩
  have b : Below w.heap.size w w' := ⟨st.os, st.tape, st.output, st.size, fun k hk => st.block k hk (by rintro ⟨l, i, q, _⟩; simp [Sit.shut] at q)⟩
  exact ⟨v', _, S, H, rfl, Step.below b, hm.below b, solid_any hs rv, hk⟩
/-- Rows of flat elements come to lists. -/
theorem res_own {H : List Row} {l k n : Nat} {r : Row} (hl : H[l]? = some r) (hk : r.es.length = k) (hf : ∀ e ∈ r.es, e.all AV.flat = true) : resolve H (n + 2) (.own l k) = some (.list 0 r.sz r.es) := by
  have e : resolve H (n + 2) (.own l k) = match H[l]? with
      | some r => if r.es.length = k then (r.es.mapM fun (e : List AV) => e.mapM (resolve H (n + 1))).map (.list 0 r.sz) else none
      | none => none := rfl
  rw [e, hl]
  simp only [hk, if_true]
  rw [mapM_flatL hf]
  rfl
theorem res_sub {H : List Row} {l k lo hi n : Nat} {r : Row} (hl : H[l]? = some r) (hk : r.es.length = k) (hf : ∀ e ∈ r.es, e.all AV.flat = true) : resolve H (n + 2) (.sub l k lo hi) = some (.list 0 r.sz ((r.es.take hi).drop lo)) := by
  have e : resolve H (n + 2) (.sub l k lo hi) = match H[l]? with
      | some r => if r.es.length = k then (((r.es.take hi).drop lo).mapM fun (e : List AV) => e.mapM (resolve H (n + 1))).map (.list 0 r.sz) else none
      | none => none := rfl
  rw [e, hl]
  simp only [hk, if_true]
  rw [mapM_flatL (fun e he => hf e (List.mem_of_mem_take (List.mem_of_mem_drop he)))]
  rfl
theorem plain_fn (g : FuncId) (caps : List AV) (h : caps.all AV.flat = true) : (AV.fn g [] caps).plain = true := by simp only [AV.plain, h]; rfl
theorem plain_list (tk sz : Nat) (es : List (List AV)) : (AV.list tk sz es).plain = true := rfl
theorem all_two {p : List AV → Prop} (x y : List AV) : (∀ e ∈ [x, y], p e) = (p x ∧ p y) := by simp
attribute [go_sem] all_two
end Go.AW

namespace Go.AW
open Go.RowKit (Below)
open Go.Sort (Holds putRow grow mapBlock onCells putCells)

/-- The cells of numbers. -/
def iCells (zs : List Int) : List (List AV) := zs.map fun z => [.val (.int .i64 z)]
theorem iCells_len (zs : List Int) : (iCells zs).length = zs.length := by simp [iCells]
theorem iCells_flat (zs : List Int) : ∀ e ∈ iCells zs, e.all AV.flat = true := by
  intro e he
  obtain ⟨z, _, q⟩ := List.mem_map.1 he
  subst q; rfl
theorem iCells_one (zs : List Int) : ∀ e ∈ iCells zs, e.length = 1 := by
  intro e he
  obtain ⟨z, _, q⟩ := List.mem_map.1 he
  subst q; rfl
theorem iCells_get (zs : List Int) (k : Nat) (h : k < zs.length) : (iCells zs)[k]? = some [.val (.int .i64 zs[k])] := by
  simp [iCells, h]
theorem iCells_app (a b : List Int) : iCells a ++ iCells b = iCells (a ++ b) := by simp [iCells]
theorem iCells_single (x : Int) : [[AV.val (Value.int .i64 x)]] = iCells [x] := rfl
theorem iCells_set (zs : List Int) (k : Nat) (x : Int) : (iCells zs).set k [.val (.int .i64 x)] = iCells (zs.set k x) := by simp [iCells, List.map_set]
theorem iCells_take (zs : List Int) (k : Nat) : (iCells zs).take k = iCells (zs.take k) := by simp [iCells, List.map_take]
theorem iCells_drop (zs : List Int) (k : Nat) : (iCells zs).drop k = iCells (zs.drop k) := by simp [iCells, List.map_drop]

/-- Numbers in rising order. -/
def sortI (zs : List Int) : List Int := zs.mergeSort fun x y => decide (x ≤ y)
theorem sortI_len (zs : List Int) : (sortI zs).length = zs.length := by unfold sortI; exact List.length_mergeSort _
theorem RepLL_ints {S : Sit} {zs : List Int} {vs : List Value} : RepLL S (iCells zs) vs ↔ ∀ (j : Nat) (h : j < zs.length), vs[j]? = some (.int .i64 zs[j]) := by
  rw [RepLL_iff (sz := 1) (iCells_one zs)]
  constructor
  · intro h j hj
    obtain ⟨v, h1, h2⟩ := h j _ (iCells_get zs j hj) 0 _ rfl
    simp only [Rep] at h2
    subst h2
    simpa using h1
  · intro h i e he j c hc
    have hi : i < zs.length := by
      have := (List.getElem?_eq_some_iff.1 he).1
      simpa [iCells] using this
    rw [iCells_get zs i hi] at he
    simp at he; subst he
    cases j with
    | zero => simp at hc; subst hc; exact ⟨_, by simpa using h i hi, by simp [Rep]⟩
    | succ j => simp at hc

theorem sort_own {P : Program} {f : FuncId} {E : TypeId}
    (hS : ∀ (blk off cap : Nat) (zs : List Int) (w : World), Holds (Value.int .i64) w blk off zs.toArray → blk < w.heap.size → zs.length < 4611686018427387904 →
      Calls P f #[.slice (some ⟨blk, off, none⟩) zs.length cap] w fun e w' => e = .returned (.tuple #[]) ∧ ∃ n os, w' = grow (putRow (Value.int .i64) (Go.Sort.ahead w n) blk off (zs.mergeSort fun x y => decide (x ≤ y)).toArray) os)
    (h0 : ∀ (p : Option Addr) (cap : Nat) (w : World), Calls P f #[.slice p 0 cap] w fun e w' => e = .returned (.tuple #[]) ∧ w' = w)
    {zs : List Int} {l : Nat} {H : List Row} (hl : H[l]? = some ⟨.ty E, 1, iCells zs⟩) (hlen : zs.length < 4611686018427387904) {K : AV → List Row → Prop} (hk : K (.tup []) (H.set l ⟨.ty E, 1, iCells (sortI zs)⟩)) :
    callSem P f [.own l zs.length] H K := by
  intro S w vals hm hgl hr
  simp only [RepL] at hr
  obtain ⟨x, r, e, rx, e2⟩ := hr
  subst e2
  have e' : vals = #[x] := by cases vals; simp at e; rw [e]
  subst e'
  simp only [Rep] at rx
  obtain ⟨_, i, q1, q2, q3⟩ := rx
  obtain ⟨k1, k2, k3, k4⟩ := hm.rows l i _ q1 hl
  have hil : i.len = zs.length := by rw [k1]; exact iCells_len zs
  by_cases hz : zs = []
  · subst hz
    have hx : ∃ p cap, x = .slice p 0 cap := by
      rcases q3 (by simpa using hil.symm) with q | ⟨_, p, q⟩
      · unfold sliceAt at q
        split at q
        · rw [hil] at q; exact ⟨_, _, q⟩
        · exact ⟨_, _, q⟩
      · exact ⟨_, _, q⟩
    obtain ⟨p, cap, hx⟩ := hx
    subst hx
    refine (h0 p cap w).mono ?_
    rintro e w' ⟨rfl, rfl⟩
    refine ⟨_, .tup [], S, H, rfl, Step.refl _ _, hm, by simp [Rep, RepL], ?_⟩
    have : H.set l ⟨.ty E, 1, iCells (sortI [])⟩ = H := by
      have := set_self hl
      simpa [sortI] using this
    rw [this] at hk; exact hk
  · have hpos : 0 < zs.length := List.length_pos_iff.2 hz
    have hne : iCells zs ≠ [] := by intro q; have := congrArg List.length q; simp [iCells] at this; exact hz this
    cases hb : i.blk with
    | none => rw [hb] at k4; exact absurd k4.1 hne
    | some b =>
      rw [hb] at k4
      have hx : x = .slice (some ⟨b, 0, none⟩) zs.length i.cap := by
        rcases q3 (by omega) with q | ⟨q, _⟩
        · rw [q]; simp only [sliceAt, hb, hil]
        · rw [hb] at q; cases q
      subst hx
      have k5 := k4.2
      rw [Stored.ty (E := E) rfl] at k5
      obtain ⟨c, j2, j3, j4, j5, j6⟩ := k5
      rw [RepLL_ints] at j3
      have hblt : b < w.heap.size := (Array.getElem?_eq_some_iff.1 j2).1
      have hH : Holds (Value.int .i64) w b 0 zs.toArray := by
        intro j hj
        have hj' : j < zs.length := by simpa using hj
        have hc : c[j]? = some (.int .i64 zs[j]) := by simpa using j3 j hj'
        constructor
        · simp only [World.cell?, j2, Nat.zero_add, hc]
          simp [hj']
        · simp [World.frozen?, j2]
      refine (hS b 0 i.cap zs w hH hblt hlen).mono ?_
      rintro e w' ⟨rfl, n, os, rfl⟩
      -- the row, then the new blocks
      have hsz : i.sz = 1 := k2
      have hcs : c.size = i.cap := by rw [j4, hsz, Nat.mul_one]
      have hset := Models.set (w' := putRow (Value.int .i64) (Go.Sort.ahead w n) b 0 (sortI zs).toArray) hm (r := ⟨.ty E, 1, iCells zs⟩) (.inl rfl) q1 hl hb (es' := iCells (sortI zs)) (c' := putCells (Value.int .i64) 0 (sortI zs).toArray c)
        (by rw [iCells_len, iCells_len, sortI_len])
        (by
          rw [RepLL_ints]
          intro j hj
          have hjz : j < zs.length := by rw [← sortI_len]; exact hj
          have hjc : j < c.size := by omega
          simp only [putCells, Array.toList_mapIdx, List.getElem?_mapIdx, Array.getElem?_toList, Array.getElem?_eq_getElem hjc, Option.map_some]
          rw [if_pos ⟨Nat.zero_le _, by simpa using hj⟩]
          simp [hj])
        (iCells_one _) (by simp [putCells, j4])
        (by
          show (w.heap.modify b _)[b]? = _
          rw [Array.getElem?_modify, if_pos rfl, j2]; rfl)
        (fun q hq => by
          show (w.heap.modify b _)[q]? = _
          rw [Array.getElem?_modify, if_neg (Ne.symm hq)])
        (by show (w.heap.modify b _).size = _; simp) rfl rfl rfl
      have hB : Below (putRow (Value.int .i64) (Go.Sort.ahead w n) b 0 (sortI zs).toArray).heap.size (putRow (Value.int .i64) (Go.Sort.ahead w n) b 0 (sortI zs).toArray) (grow (putRow (Value.int .i64) (Go.Sort.ahead w n) b 0 (sortI zs).toArray) os) :=
        ⟨rfl, rfl, rfl, by simp [grow], fun q hq => by
          show (_ ++ os)[q]? = _
          rw [Array.getElem?_append_left hq]⟩
      exact ⟨_, .tup [], S, _, rfl, hset.2.trans (Step.below hB), hset.1.below hB, by simp [Rep, RepL], hk⟩

theorem Own.val {H : List Row} {n : Nat} {a : AV} {v : Value} {fs : List Nat} (h : Own H n a (.val v) fs) : a = .val v ∧ fs = [] := by
  cases n with
  | zero => exact h.elim
  | succ n =>
    cases a with
    | val u =>
      obtain ⟨h1, h2 | ⟨_, _, h2⟩⟩ := h
      · injection h2 with q; subst q; exact ⟨rfl, h1⟩
      · cases h2
    | own l k => obtain ⟨_, _, _, _, _, _, q, _⟩ := h; cases q
    | sub l k lo hi => obtain ⟨_, _, _, _, _, _, q, _⟩ := h; cases q
    | agg cs => obtain ⟨_, _, q⟩ := h; cases q
    | tup cs => obtain ⟨_, _, q⟩ := h; cases q
    | _ => exact h.elim
theorem OwnLL_ints {H : List Row} {n : Nat} : ∀ {zs : List Int} {es : List (List AV)} {fs : List Nat}, OwnLL (Own H n) es (iCells zs) fs → es = iCells zs ∧ fs = []
  | [], es, fs, h => by
    cases es with
    | nil => exact ⟨rfl, h.2⟩
    | cons e es => obtain ⟨_, _, _, _, q, _⟩ := h; cases q
  | z :: zs, es, fs, h => by
    cases es with
    | nil => obtain ⟨q, _⟩ := h; cases q
    | cons e es =>
      obtain ⟨d, ds, f, f', q, e2, h1, h2⟩ := h
      simp only [iCells, List.map_cons, List.cons.injEq] at q
      obtain ⟨q1, q2⟩ := q
      subst q1 q2
      obtain ⟨i1, i2⟩ := OwnLL_ints (zs := zs) h2
      subst i1 i2
      cases e with
      | nil => obtain ⟨q, _⟩ := h1; cases q
      | cons c cs =>
        obtain ⟨d', ds', g, g', q, e3, h3, h4⟩ := h1
        simp only [List.cons.injEq] at q
        obtain ⟨q1, q2⟩ := q
        subst q1 q2
        obtain ⟨rfl, rfl⟩ := Own.val h3
        cases cs with
        | nil =>
          obtain ⟨_, rfl⟩ := h4
          subst e3 e2
          exact ⟨rfl, rfl⟩
        | cons c' cs' => obtain ⟨_, _, _, _, q, _⟩ := h4; cases q
theorem OwnLL_ofInts {H : List Row} {n : Nat} : ∀ (zs : List Int), OwnLL (Own H (n + 1)) (iCells zs) (iCells zs) []
  | [] => ⟨rfl, rfl⟩
  | z :: zs => ⟨_, _, [], [], rfl, rfl, ⟨_, _, [], [], rfl, rfl, ⟨rfl, .inl rfl⟩, ⟨rfl, rfl⟩⟩, OwnLL_ofInts zs⟩
/-- A new row of numbers. -/
theorem Fresh.ofInts {base l : Nat} {H : List Row} {E : Tag} {zs : List Int} (hl : H[l]? = some ⟨E, 1, iCells zs⟩) (hb : base ≤ l) : Fresh base H (.own l zs.length) (.list 0 1 (iCells zs)) :=
  ⟨2, [l], ⟨_, iCells zs, [], hl, iCells_len zs, OwnLL_ofInts zs, rfl, rfl⟩, by simp, by simpa using hb⟩
theorem Fresh.ints {base l k : Nat} {H : List Row} {zs : List Int} (h : Fresh base H (.own l k) (.list 0 1 (iCells zs))) : base ≤ l ∧ k = zs.length ∧ ∃ E, H[l]? = some ⟨E, 1, iCells zs⟩ := by
  obtain ⟨n, fs, ho, _, hge⟩ := h
  cases n with
  | zero => exact ho.elim
  | succ n =>
    obtain ⟨row, es, f, h1, h2, h3, h4, h5⟩ := ho
    subst h5
    injection h4 with _ q1 q2
    subst q2
    obtain ⟨i1, _⟩ := OwnLL_ints h3
    refine ⟨hge l (by simp), by rw [← h2, i1, iCells_len], row.E, ?_⟩
    rw [h1, q1, ← i1]
theorem fold_set (out : List Int) (x : Int) : iCells out ++ [[AV.val (Value.int .i64 x)]] = iCells (out ++ [x]) := iCells_app out [x]
theorem all_none {p : List AV → Prop} : (∀ e ∈ ([] : List (List AV)), p e) = True := by simp
attribute [go_sem] iCells_len fold_set all_none
end Go.AW

namespace Go.AW

/-- What an element's cells are: numbers, texts, truth values, slices of such elements. -/
inductive Sch where
  | int
  | str
  | bool
  | list (fs : List Sch)

def mapAcc (g : List AV → Int → List AV × Int) : List (List AV) → Int → List (List AV) × Int
  | [], k => ([], k)
  | e :: es, k => ((g e k).1 :: (mapAcc g es (g e k).2).1, (mapAcc g es (g e k).2).2)
def hdAcc (g : List AV → Int → Int) : List (List AV) → Int → Int
  | [], k => k
  | e :: es, k => if g e k < 0 then -1 else hdAcc g es (g e k)
def cntAcc (g : List AV → Nat) : List (List AV) → Nat
  | [] => 0
  | e :: es => g e + cntAcc g es
section
variable (mt : Int → ByteArray)
mutual
/-- A cell marked with k, and what k is then. -/
def mkCell : Sch → AV → Int → AV × Int
  | .int, _, k => (.val (.int .i64 k), k + 1)
  | .str, _, k => (.val (.string (mt k)), k + 1)
  | .bool, _, k => (.val (.bool (decide (k % 3 = 0))), k + 1)
  | .list fs, .list tk sz es, k => (.list tk sz (mapAcc (mkEl fs) es k).1, (mapAcc (mkEl fs) es k).2)
  | .list _, a, k => (a, k)
def mkEl : List Sch → List AV → Int → List AV × Int
  | s :: ss, c :: cs, k => ((mkCell s c k).1 :: (mkEl ss cs (mkCell s c k).2).1, (mkEl ss cs (mkCell s c k).2).2)
  | _, cs, k => (cs, k)
end
mutual
/-- Is a cell marked with k? -1: no. -/
def hdCell : Sch → AV → Int → Int
  | .int, .val (.int .i64 n), k => if n = k then k + 1 else -1
  | .str, .val (.string s), k => if s = mt k then k + 1 else -1
  | .bool, .val (.bool b), k => if b = decide (k % 3 = 0) then k + 1 else -1
  | .list fs, .list _ _ es, k => hdAcc (hdEl fs) es k
  | _, _, _ => -1
def hdEl : List Sch → List AV → Int → Int
  | s :: ss, c :: cs, k => if hdCell s c k < 0 then -1 else hdEl ss cs (hdCell s c k)
  | _, _, k => k
end
end
mutual
def cntCell : Sch → AV → Nat
  | .list fs, .list _ _ es => cntAcc (cntEl fs) es
  | .list _, _ => 0
  | _, _ => 1
def cntEl : List Sch → List AV → Nat
  | s :: ss, c :: cs => cntCell s c + cntEl ss cs
  | _, _ => 0
end
mutual
/-- The cells are of these kinds. -/
def shCell : Sch → AV → Prop
  | .int, a => ∃ n, a = .val (.int .i64 n)
  | .str, a => ∃ s, a = .val (.string s)
  | .bool, a => ∃ b, a = .val (.bool b)
  | .list fs, a => ∃ es, a = .list 0 fs.length es ∧ ∀ e ∈ es, shEl fs e
def shEl : List Sch → List AV → Prop
  | [], cs => cs = []
  | s :: ss, cs => ∃ c r, cs = c :: r ∧ shCell s c ∧ shEl ss r
end
theorem shEl_len : ∀ {fs : List Sch} {cs : List AV}, shEl fs cs → cs.length = fs.length
  | [], cs, h => by unfold shEl at h; rw [h]; rfl
  | s :: ss, cs, h => by
    unfold shEl at h
    obtain ⟨c, r, rfl, _, h2⟩ := h
    rw [List.length_cons, List.length_cons, shEl_len h2]

variable {mt : Int → ByteArray}
theorem mapAcc_snoc (g : List AV → Int → List AV × Int) : ∀ (xs : List (List AV)) (x : List AV) (k : Int), mapAcc g (xs ++ [x]) k = ((mapAcc g xs k).1 ++ [(g x (mapAcc g xs k).2).1], (g x (mapAcc g xs k).2).2)
  | [], x, k => rfl
  | y :: xs, x, k => by
    rw [List.cons_append, mapAcc, mapAcc_snoc g xs x]; rfl
theorem mapAcc_len (g : List AV → Int → List AV × Int) : ∀ (xs : List (List AV)) (k : Int), (mapAcc g xs k).1.length = xs.length
  | [], k => rfl
  | y :: xs, k => by rw [mapAcc, List.length_cons, mapAcc_len g xs]; rfl
theorem mapAcc_cnt {g : List AV → Int → List AV × Int} {c : List AV → Nat} {xs : List (List AV)} (hg : ∀ x ∈ xs, ∀ k, (g x k).2 = k + c x) (k : Int) : (mapAcc g xs k).2 = k + cntAcc c xs := by
  induction xs generalizing k with
  | nil => simp [mapAcc, cntAcc]
  | cons y xs ih =>
    rw [mapAcc, cntAcc]
    simp only
    rw [ih (fun x hx => hg x (by simp [hx])), hg y (by simp)]
    omega
theorem hdAcc_mk {g : List AV → Int → List AV × Int} {d : List AV → Int → Int} {c : List AV → Nat} {xs : List (List AV)} (hg : ∀ x ∈ xs, ∀ k, (g x k).2 = k + c x) (hd : ∀ x ∈ xs, ∀ k, 0 ≤ k → d (g x k).1 k = (g x k).2) (k : Int) (hk : 0 ≤ k) : hdAcc d (mapAcc g xs k).1 k = (mapAcc g xs k).2 := by
  induction xs generalizing k with
  | nil => rfl
  | cons y xs ih =>
    rw [mapAcc]
    simp only [hdAcc]
    rw [hd y (by simp) k hk, hg y (by simp), if_neg (by omega)]
    exact ih (fun x hx => hg x (by simp [hx])) (fun x hx => hd x (by simp [hx])) _ (by omega)
mutual
theorem mkCell_cnt : ∀ (s : Sch) (a : AV) (k : Int), (mkCell mt s a k).2 = k + cntCell s a
  | .int, a, k => by simp [mkCell, cntCell]
  | .str, a, k => by simp [mkCell, cntCell]
  | .bool, a, k => by simp [mkCell, cntCell]
  | .list fs, .list tk sz es, k => by
    simp only [mkCell, cntCell]
    exact mapAcc_cnt (fun x _ k => mkEl_cnt fs x k) k
  | .list fs, .val v, k => by simp [mkCell, cntCell]
  | .list fs, .iptr cs, k => by simp [mkCell, cntCell]
  | .list fs, .ptr _ _ _ _, k => by simp [mkCell, cntCell]
  | .list fs, .own _ _, k => by simp [mkCell, cntCell]
  | .list fs, .sub _ _ _ _, k => by simp [mkCell, cntCell]
  | .list fs, .mp _, k => by simp [mkCell, cntCell]
  | .list fs, .agg _, k => by simp [mkCell, cntCell]
  | .list fs, .tup _, k => by simp [mkCell, cntCell]
  | .list fs, .fn _ _ _, k => by simp [mkCell, cntCell]
  | .list fs, .undef, k => by simp [mkCell, cntCell]
theorem mkEl_cnt : ∀ (fs : List Sch) (cs : List AV) (k : Int), (mkEl mt fs cs k).2 = k + cntEl fs cs
  | [], cs, k => by simp [mkEl, cntEl]
  | s :: ss, [], k => by simp [mkEl, cntEl]
  | s :: ss, c :: cs, k => by
    simp only [mkEl, cntEl]
    rw [mkEl_cnt ss cs, mkCell_cnt s c]; omega
end
mutual
theorem hdCell_mk : ∀ (s : Sch) (a : AV) (k : Int), shCell s a → 0 ≤ k → hdCell mt s (mkCell mt s a k).1 k = (mkCell mt s a k).2
  | .int, a, k, _, hk => by simp [mkCell, hdCell]
  | .str, a, k, _, hk => by simp [mkCell, hdCell]
  | .bool, a, k, _, hk => by simp [mkCell, hdCell]
  | .list fs, a, k, h, hk => by
    unfold shCell at h
    obtain ⟨es, rfl, h⟩ := h
    simp only [mkCell, hdCell]
    exact hdAcc_mk (fun x _ k => mkEl_cnt fs x k) (fun x hx k hk => hdEl_mk fs x k (h x hx) hk) k hk
theorem hdEl_mk : ∀ (fs : List Sch) (cs : List AV) (k : Int), shEl fs cs → 0 ≤ k → hdEl mt fs (mkEl mt fs cs k).1 k = (mkEl mt fs cs k).2
  | [], cs, k, _, hk => by simp [mkEl, hdEl]
  | s :: ss, cs, k, h, hk => by
    unfold shEl at h
    obtain ⟨c, r, rfl, h1, h2⟩ := h
    simp only [mkEl, hdEl]
    rw [hdCell_mk s c k h1 hk, mkCell_cnt, if_neg (by omega)]
    exact hdEl_mk ss r _ h2 (by omega)
end
mutual
theorem mkCell_sh : ∀ (s : Sch) (a : AV) (k : Int), shCell s a → shCell s (mkCell mt s a k).1
  | .int, a, k, _ => by simp [mkCell, shCell]
  | .str, a, k, _ => by simp [mkCell, shCell]
  | .bool, a, k, _ => by simp [mkCell, shCell]
  | .list fs, a, k, h => by
    unfold shCell at h
    obtain ⟨es, rfl, h⟩ := h
    simp only [mkCell, shCell]
    exact ⟨_, rfl, mapAcc_all (fun x hx k => mkEl_sh fs x k (h x hx)) k⟩
theorem mkEl_sh : ∀ (fs : List Sch) (cs : List AV) (k : Int), shEl fs cs → shEl fs (mkEl mt fs cs k).1
  | [], cs, k, h => by unfold shEl at h; simp [mkEl, shEl, h]
  | s :: ss, cs, k, h => by
    unfold shEl at h
    obtain ⟨c, r, rfl, h1, h2⟩ := h
    simp only [mkEl]
    unfold shEl
    exact ⟨_, _, rfl, mkCell_sh s c k h1, mkEl_sh ss r _ h2⟩
theorem mapAcc_all {g : List AV → Int → List AV × Int} {p : List AV → Prop} : ∀ {xs : List (List AV)}, (∀ x ∈ xs, ∀ k, p (g x k).1) → ∀ k : Int, ∀ e ∈ (mapAcc g xs k).1, p e
  | [], _, k, e, he => by simp [mapAcc] at he
  | x :: xs, h, k, e, he => by
    simp only [mapAcc, List.mem_cons] at he
    rcases he with q | q
    · subst q; exact h x (by simp) k
    · exact mapAcc_all (fun y hy => h y (by simp [hy])) _ e q
end
mutual
theorem cntCell_mk : ∀ (s : Sch) (a : AV) (k : Int), shCell s a → cntCell s (mkCell mt s a k).1 = cntCell s a
  | .int, a, k, _ => by simp [cntCell]
  | .str, a, k, _ => by simp [cntCell]
  | .bool, a, k, _ => by simp [cntCell]
  | .list fs, a, k, h => by
    unfold shCell at h
    obtain ⟨es, rfl, h⟩ := h
    simp only [mkCell, cntCell]
    exact cntAcc_mkG (fun x hx k => cntEl_mk fs x k (h x hx)) k
theorem cntEl_mk : ∀ (fs : List Sch) (cs : List AV) (k : Int), shEl fs cs → cntEl fs (mkEl mt fs cs k).1 = cntEl fs cs
  | [], cs, k, h => by simp [cntEl]
  | s :: ss, cs, k, h => by
    unfold shEl at h
    obtain ⟨c, r, rfl, h1, h2⟩ := h
    simp only [mkEl, cntEl]
    rw [cntCell_mk s c k h1, cntEl_mk ss r _ h2]
theorem cntAcc_mkG {g : List AV → Int → List AV × Int} {c : List AV → Nat} : ∀ {xs : List (List AV)}, (∀ x ∈ xs, ∀ k, c (g x k).1 = c x) → ∀ k : Int, cntAcc c (mapAcc g xs k).1 = cntAcc c xs
  | [], _, k => rfl
  | x :: xs, h, k => by
    simp only [mapAcc, cntAcc]
    rw [h x (by simp), cntAcc_mkG (fun y hy => h y (by simp [hy]))]
end
theorem cntAcc_mk {fs : List Sch} {xs : List (List AV)} {k : Int} (h : ∀ x ∈ xs, shEl fs x) : cntAcc (cntEl fs) (mapAcc (mkEl mt fs) xs k).1 = cntAcc (cntEl fs) xs := cntAcc_mkG (mt := mt) (fun x hx k => cntEl_mk (mt := mt) fs x k (h x hx)) k
end Go.AW

namespace Go.AW

theorem Own.lt {H : List Row} {n : Nat} {a r : AV} {fs : List Nat} (h : Own H n a r fs) : ∀ l ∈ fs, l < H.length := fun l hl => by
  obtain ⟨row, m, es, g, h1, _⟩ := h.inner l hl
  exact (List.getElem?_eq_some_iff.1 h1).1
theorem OwnL.len {R : AV → AV → List Nat → Prop} : ∀ {cs ds : List AV} {fs : List Nat}, OwnL R cs ds fs → ds.length = cs.length
  | [], ds, fs, h => by obtain ⟨h, _⟩ := h; subst h; rfl
  | c :: cs, ds, fs, h => by
    obtain ⟨d, ds', f, f', e1, e2, h1, h2⟩ := h
    subst e1
    simp [OwnL.len h2]
theorem OwnL.split {R : AV → AV → List Nat → Prop} : ∀ {cs ds : List AV} {fs : List Nat} (j : Nat) {r : AV}, OwnL R cs ds fs → ds[j]? = some r → ∃ c f1 f2 f3, cs[j]? = some c ∧ fs = f1 ++ (f2 ++ f3) ∧ R c r f2 ∧
    ∀ (R' : AV → AV → List Nat → Prop) (c' r' : AV), (∀ a r g, (∀ l ∈ g, l ∈ f1 ∨ l ∈ f3) → R a r g → R' a r g) → R' c' r' f2 → OwnL R' (cs.set j c') (ds.set j r') fs
  | [], ds, fs, j, r, h, hj => by obtain ⟨h, _⟩ := h; subst h; simp at hj
  | c :: cs, ds, fs, 0, r, h, hj => by
    obtain ⟨d, ds', f, f', rfl, rfl, h1, h2⟩ := h
    simp only [List.getElem?_cons_zero, Option.some.injEq] at hj
    subst hj
    refine ⟨c, [], f, f', rfl, rfl, h1, fun R' c' r' hm hr => ?_⟩
    exact ⟨r', ds', f, f', rfl, rfl, hr, OwnL.mono (fun a r g hg => hm a r g fun l hl => .inr (hg l hl)) h2⟩
  | c :: cs, ds, fs, j + 1, r, h, hj => by
    obtain ⟨d, ds', f, f', rfl, rfl, h1, h2⟩ := h
    simp only [List.getElem?_cons_succ] at hj
    obtain ⟨c0, f1, f2, f3, q1, rfl, q3, q4⟩ := OwnL.split j h2 hj
    refine ⟨c0, f ++ f1, f2, f3, by simpa using q1, by simp, q3, fun R' c' r' hm hr => ?_⟩
    refine ⟨d, ds'.set j r', f, f1 ++ (f2 ++ f3), rfl, rfl, hm _ _ _ (fun l hl => .inl (by simp [hl])) h1, q4 R' c' r' (fun a r g hg => hm a r g fun l hl => ?_) hr⟩
    rcases hg l hl with q | q
    · exact .inl (by simp [q])
    · exact .inr q
theorem OwnLL.split {R : AV → AV → List Nat → Prop} : ∀ {es rs : List (List AV)} {fs : List Nat} (j : Nat) {d : List AV}, OwnLL R es rs fs → rs[j]? = some d → ∃ e f1 f2 f3, es[j]? = some e ∧ fs = f1 ++ (f2 ++ f3) ∧ OwnL R e d f2 ∧
    ∀ (R' : AV → AV → List Nat → Prop) (e' d' : List AV), (∀ a r g, (∀ l ∈ g, l ∈ f1 ∨ l ∈ f3) → R a r g → R' a r g) → OwnL R' e' d' f2 → OwnLL R' (es.set j e') (rs.set j d') fs
  | [], rs, fs, j, d, h, hj => by obtain ⟨h, _⟩ := h; subst h; simp at hj
  | e :: es, rs, fs, 0, d, h, hj => by
    obtain ⟨d0, ds', f, f', rfl, rfl, h1, h2⟩ := h
    simp only [List.getElem?_cons_zero, Option.some.injEq] at hj
    subst hj
    refine ⟨e, [], f, f', rfl, rfl, h1, fun R' c' r' hm hr => ?_⟩
    exact ⟨r', ds', f, f', rfl, rfl, hr, OwnLL.mono (fun a r g hg => hm a r g fun l hl => .inr (hg l hl)) h2⟩
  | e :: es, rs, fs, j + 1, d, h, hj => by
    obtain ⟨d0, ds', f, f', rfl, rfl, h1, h2⟩ := h
    simp only [List.getElem?_cons_succ] at hj
    obtain ⟨c0, f1, f2, f3, q1, rfl, q3, q4⟩ := OwnLL.split j h2 hj
    refine ⟨c0, f ++ f1, f2, f3, by simpa using q1, by simp, q3, fun R' c' r' hm hr => ?_⟩
    refine ⟨d0, ds'.set j r', f, f1 ++ (f2 ++ f3), rfl, rfl, OwnL.mono (fun a r g hg => hm a r g fun l hl => .inl (by simp [hg l hl])) h1, q4 R' c' r' (fun a r g hg => hm a r g fun l hl => ?_) hr⟩
    rcases hg l hl with q | q
    · exact .inl (by simp [q])
    · exact .inr q
theorem Own.of_val {H : List Row} {m : Nat} {c : AV} {v : Value} {f : List Nat} (h : Own H m c (.val v) f) : f = [] ∧ c = .val v := by
  cases m with
  | zero => exact h.elim
  | succ m =>
    cases c with
    | val u =>
      obtain ⟨h1, h2 | ⟨_, sz, h2⟩⟩ := h
      · simp only [AV.val.injEq] at h2; subst h2; exact ⟨h1, rfl⟩
      · cases h2
    | own l k => obtain ⟨row, es, g, _, _, _, h4, _⟩ := h; cases h4
    | sub l k lo hi => obtain ⟨row, es, g, _, _, _, h4, _⟩ := h; cases h4
    | agg cs => obtain ⟨ds, _, h4⟩ := h; cases h4
    | tup cs => obtain ⟨ds, _, h4⟩ := h; cases h4
    | _ => exact h.elim
theorem Own.mk_val (H : List Row) (m : Nat) (v : Value) : Own H (m + 1) (.val v) (.val v) [] := ⟨rfl, .inl rfl⟩
theorem OwnLL.up {H : List Row} {n m : Nat} (hm : n ≤ m) {es rs : List (List AV)} {fs : List Nat} (h : OwnLL (Own H n) es rs fs) : OwnLL (Own H m) es rs fs := OwnLL.mono (fun _ _ _ _ ho => Own.up hm ho) h
theorem OwnL.up {H : List Row} {n m : Nat} (hm : n ≤ m) {es rs : List AV} {fs : List Nat} (h : OwnL (Own H n) es rs fs) : OwnL (Own H m) es rs fs := OwnL.mono (fun _ _ _ _ ho => Own.up hm ho) h

/-- A slice of the call's own whose elements come to rs; since H0 only its own rows have turned. -/
structure MT (H0 : List Row) (l : Nat) (E : Tag) (sz cnt : Nat) (f : List Nat) (rs : List (List AV)) (H : List Row) : Prop where
  out : ∃ m es, H[l]? = some ⟨E, sz, es⟩ ∧ es.length = cnt ∧ OwnLL (Own H (m + 1)) es rs f
  len : H.length = H0.length
  kept : ∀ x, x ∉ l :: f → H[x]? = H0[x]?
theorem set_mid {α : Type} (e : List α) (off : Nat) (a : α) (h : off < e.length) : e.take off ++ [a] ++ e.drop (off + 1) = e.set off a := by
  rw [List.set_eq_take_append_cons_drop, if_pos h]; simp
theorem MT.put {H0 : List Row} {l : Nat} {E : Tag} {sz cnt : Nat} {f : List Nat} {rs : List (List AV)} {H : List Row} {j off : Nat} {d : List AV} {v : Value} (h : MT H0 l E sz cnt f (rs.set j d) H) (hl : l ∉ f) (hj : j < rs.length) (ho : d[off]? = some (.val v)) :
    ∃ es e, H[l]? = some ⟨E, sz, es⟩ ∧ es.length = cnt ∧ es[j]? = some e ∧ off + 1 ≤ e.length ∧
      ∀ w, MT H0 l E sz cnt f (rs.set j (d.set off (.val w))) (H.set l ⟨E, sz, es.set j (e.take off ++ [.val w] ++ e.drop (off + 1))⟩) := by
  obtain ⟨⟨m, es, h1, h2, h3⟩, h4, h5⟩ := h
  have hd : (rs.set j d)[j]? = some d := by rw [List.getElem?_set_self hj]
  obtain ⟨e, f1, f2, f3, q1, q2, q3, q4⟩ := h3.split j hd
  obtain ⟨c, g1, g2, g3, p1, p2, p3, p4⟩ := q3.split off ho
  obtain ⟨rfl, rfl⟩ := p3.of_val
  have hlen : off < e.length := (List.getElem?_eq_some_iff.1 p1).1
  have hlt : l < H.length := (List.getElem?_eq_some_iff.1 h1).1
  refine ⟨es, e, h1, h2, q1, hlen, fun w => ⟨⟨m, _, List.getElem?_set_self hlt, by simpa using h2, ?_⟩, by simpa using h4, fun x hx => ?_⟩⟩
  · rw [set_mid e off _ hlen]
    have hk : ∀ a r g, (∀ x ∈ g, x ∈ f) → Own H (m + 1) a r g → Own (H.set l ⟨E, sz, es.set j (e.set off (.val w))⟩) (m + 1) a r g := fun a r g hg ho => ho.keep fun x hx => by
      rw [List.getElem?_set_ne]; rintro rfl; exact hl (hg _ hx)
    have := q4 (Own (H.set l ⟨E, sz, es.set j (e.set off (.val w))⟩) (m + 1)) (e.set off (.val w)) (d.set off (.val w)) (fun a r g hg => hk a r g fun x hx => by
      rw [q2]; rcases hg x hx with q | q <;> simp [q]) (p4 _ _ _ (fun a r g hg => hk a r g fun x hx => by
      rw [q2, p2]; rcases hg x hx with q | q <;> simp [q]) (Own.mk_val _ _ _))
    rw [List.set_set] at this
    exact this
  · rw [List.getElem?_set_ne (by rintro rfl; simp at hx)]
    exact h5 x hx
theorem MT.sub {H0 : List Row} {l : Nat} {E : Tag} {sz cnt : Nat} {f : List Nat} {rs : List (List AV)} {H : List Row} {j off s2 : Nat} {d : List AV} {es2 : List (List AV)} (h : MT H0 l E sz cnt f (rs.set j d) H) (hl : l ∉ f) (nd : f.Nodup) (hj : j < rs.length) (ho : d[off]? = some (.list 0 s2 es2)) :
    ∃ m es e c g, H[l]? = some ⟨E, sz, es⟩ ∧ es.length = cnt ∧ es[j]? = some e ∧ loadFrom none (e.drop off) = some c ∧ Own H m c (.list 0 s2 es2) g ∧ g.Nodup ∧
      ∀ H' m' es3, H'.length = H.length → (∀ x, x ∉ g → H'[x]? = H[x]?) → Own H' m' c (.list 0 s2 es3) g → MT H0 l E sz cnt f (rs.set j (d.set off (.list 0 s2 es3))) H' := by
  obtain ⟨⟨m, es, h1, h2, h3⟩, h4, h5⟩ := h
  have hd : (rs.set j d)[j]? = some d := by rw [List.getElem?_set_self hj]
  obtain ⟨e, f1, f2, f3, q1, q2, q3, q4⟩ := h3.split j hd
  obtain ⟨c, g1, g2, g3, p1, p2, p3, p4⟩ := q3.split off ho
  obtain ⟨hlen, hc⟩ := List.getElem?_eq_some_iff.1 p1
  obtain ⟨hle, he⟩ := List.getElem?_eq_some_iff.1 q1
  subst p2 q2
  simp only [List.nodup_append, List.mem_append] at nd
  obtain ⟨n1, ⟨⟨m1, ⟨m2, m3, m4⟩, m5⟩, n3, n4⟩, n5⟩ := nd
  refine ⟨m + 1, es, e, c, g2, h1, h2, q1, by rw [List.drop_eq_getElem_cons hlen, hc]; rfl, p3, m2, fun H' m' es3 e1 e2 e3 => ?_⟩
  have hlg : l ∉ g2 := fun q => hl (by simp [q])
  have hkeep : ∀ M, m + 1 ≤ M → ∀ a r g, (∀ x ∈ g, x ∉ g2) → Own H (m + 1) a r g → Own H' M a r g := fun M hM a r g hg ho => Own.up hM (ho.keep fun x hx => e2 x (hg x hx))
  refine ⟨⟨m + m', es, by rw [e2 l hlg]; exact h1, h2, ?_⟩, by rw [e1]; exact h4, fun x hx => ?_⟩
  · have := q4 (Own H' (m + m' + 1)) (e.set off c) (d.set off (.list 0 s2 es3)) (fun a r g hg => hkeep _ (by omega) a r g fun x hx hx2 => by
      rcases hg x hx with q | q
      · exact n5 x q x (.inl (.inr (.inl hx2))) rfl
      · exact n4 x (.inr (.inl hx2)) x q rfl) (p4 _ _ _ (fun a r g hg => hkeep _ (by omega) a r g fun x hx hx2 => by
      rcases hg x hx with q | q
      · exact m5 x q x (.inl hx2) rfl
      · exact m4 x hx2 x q rfl) (Own.up (by omega) e3))
    rw [List.set_set] at this
    have e4 : e.set off c = e := by rw [← hc]; exact List.set_getElem_self hlen
    have e5 : es.set j e = es := by rw [← he]; exact List.set_getElem_self hle
    rw [e4, e5] at this
    exact this
  · rw [e2 x (fun q => hx (by simp [q]))]
    exact h5 x hx

/-- What is known of a part of a row that is handed in. -/
theorem callSem_sub {P : Program} {F l n lo hi : Nat} {as : List AV} {H : List Row} {K : AV → List Row → Prop} {row : Row} (hl : H[l]? = some row) (hn : row.es.length = n) (hc : lo ≤ hi → hi ≤ n → callSem P F (.sub l n lo hi :: as) H K) : callSem P F (.sub l n lo hi :: as) H K := by
  intro S w vals hm hgl hr
  have hr' := hr
  simp only [RepL] at hr'
  obtain ⟨v, r, e, h1, h2⟩ := hr'
  simp only [Rep] at h1
  obtain ⟨_, i, q1, q2, q3⟩ := h1
  have q4 := (hm.rows l i row q1 hl).1
  obtain ⟨q5, q6, _⟩ := q3 (by omega)
  exact hc q5 q6 S w vals hm hgl hr
theorem callSem_own {P : Program} {F l n : Nat} {as : List AV} {H : List Row} {K : AV → List Row → Prop} (hc : callSem P F (.sub l n 0 n :: as) H K) : callSem P F (.own l n :: as) H K := by
  intro S w vals hm hgl hr
  refine hc S w vals hm hgl ?_
  simp only [RepL] at hr ⊢
  obtain ⟨v, r, e, h1, h2⟩ := hr
  refine ⟨v, r, e, ?_, h2⟩
  simp only [Rep] at h1 ⊢
  obtain ⟨q0, i, q1, q2, q3⟩ := h1
  refine ⟨q0, i, q1, q2, fun q => ⟨Nat.zero_le _, Nat.le_refl _, ?_⟩⟩
  rcases q3 q with q4 | q4
  · unfold sliceAt at q4
    split at q4
    · rename_i b hb
      right
      exact ⟨b, 0, hb, by rw [q4, Nat.sub_zero, Nat.sub_zero, q], fun _ => by simp⟩
    · rename_i hb
      left
      exact ⟨hb, none, q4⟩
  · exact .inl q4

/-- The contract of a function that marks a slice. -/
def MarkC (P : Program) (F : FuncId) (mt : Int → ByteArray) (fs : List Sch) : Prop :=
  ∀ (m : Nat) (a : AV) (es : List (List AV)) (f : List Nat) (H : List Row) (k : Int) (K : AV → List Row → Prop), Own H m a (.list 0 fs.length es) f → f.Nodup → (∀ e ∈ es, shEl fs e) → 0 ≤ k → k + cntAcc (cntEl fs) es ≤ 4611686018427387904 →
    (∀ H' m', H'.length = H.length → (∀ x, x ∉ f → H'[x]? = H[x]?) → Own H' m' a (.list 0 fs.length (mapAcc (mkEl mt fs) es k).1) f → K (.val (.int .i64 (mapAcc (mkEl mt fs) es k).2)) H') →
    callSem P F [a, .val (.int .i64 k)] H K
theorem MarkC.of {P : Program} {F : FuncId} {mt : Int → ByteArray} {fs : List Sch}
    (hnil : ∀ (H : List Row) (k : Int) (K : AV → List Row → Prop), K (.val (.int .i64 k)) H → callSem P F [.val (.slice none 0 0), .val (.int .i64 k)] H K)
    (hsub : ∀ (l cnt lo hi : Nat) (E : Tag) (rs : List (List AV)) (f : List Nat) (H : List Row) (k : Int) (K : AV → List Row → Prop), MT H l E fs.length cnt f rs H → l ∉ f → f.Nodup → rs.length = cnt → lo ≤ hi → hi ≤ cnt → (∀ e ∈ (rs.take hi).drop lo, shEl fs e) → 0 ≤ k → k + cntAcc (cntEl fs) ((rs.take hi).drop lo) ≤ 4611686018427387904 →
      (∀ H' rs', MT H l E fs.length cnt f rs' H' → (rs'.take hi).drop lo = (mapAcc (mkEl mt fs) ((rs.take hi).drop lo) k).1 → K (.val (.int .i64 (mapAcc (mkEl mt fs) ((rs.take hi).drop lo) k).2)) H') → callSem P F [.sub l cnt lo hi, .val (.int .i64 k)] H K) : MarkC P F mt fs := by
  intro m a es f H k K ho nd hsh hk hb hK
  cases m with
  | zero => exact ho.elim
  | succ m =>
    have part : ∀ (l cnt lo hi : Nat) (row : Row) (es0 : List (List AV)) (f0 : List Nat), H[l]? = some row → row.es.length = cnt → OwnLL (Own H m) row.es es0 f0 → row.sz = fs.length → es = (es0.take hi).drop lo → f = l :: f0 →
        (∀ H' m' row' es', H'.length = H.length → (∀ x, x ∉ f → H'[x]? = H[x]?) → H'[l]? = some row' → row'.es.length = cnt → row'.sz = fs.length → OwnLL (Own H' m') row'.es es' f0 → (es'.take hi).drop lo = (mapAcc (mkEl mt fs) es k).1 → K (.val (.int .i64 (mapAcc (mkEl mt fs) es k).2)) H') →
        callSem P F [.sub l cnt lo hi, .val (.int .i64 k)] H K := by
      rintro l cnt lo hi ⟨E, sz, res⟩ es0 f0 h1 h2 h3 h4 rfl rfl hfin
      simp only at h2 h3 h4
      subst h4
      rw [List.nodup_cons] at nd
      refine callSem_sub h1 h2 fun hlo hhi => ?_
      refine hsub l cnt lo hi E es0 f0 H k K ⟨⟨m, res, h1, h2, h3.up (by omega)⟩, rfl, fun _ _ => rfl⟩ nd.1 nd.2 (by rw [h3.len, h2]) hlo hhi hsh hk hb ?_
      rintro H' rs' ⟨⟨m', res', g1, g2, g3⟩, g4, g5⟩ e
      exact hfin H' _ ⟨E, fs.length, res'⟩ rs' g4 g5 g1 g2 rfl g3 e
    cases a with
    | val v =>
      obtain ⟨rfl, e | ⟨rfl, sz, e⟩⟩ := ho
      · cases e
      · simp only [AV.list.injEq] at e
        obtain ⟨_, rfl, rfl⟩ := e
        refine hnil H k K (hK H 1 rfl (fun _ _ => rfl) ⟨rfl, .inr ⟨rfl, _, rfl⟩⟩)
    | own l cnt =>
      obtain ⟨row, es0, f0, h1, h2, h3, h4, h5⟩ := ho
      simp only [AV.list.injEq, true_and] at h4
      obtain ⟨h4, rfl⟩ := h4
      have hlen : es.length = cnt := by rw [h3.len, h2]
      refine callSem_own (part l cnt 0 cnt row es f0 h1 h2 h3 h4.symm (by rw [List.drop_zero, List.take_of_length_le (by omega)]) h5 ?_)
      rintro H' m' row' es' e1 e2 e3 e4 e5 e6 e7
      have hlen' : es'.length = cnt := by rw [e6.len, e4]
      rw [List.drop_zero, List.take_of_length_le (by omega)] at e7
      subst e7
      exact hK H' (m' + 1) e1 e2 ⟨row', _, f0, e3, e4, e6, by rw [e5], h5⟩
    | sub l cnt lo hi =>
      obtain ⟨row, es0, f0, h1, h2, h3, h4, h5⟩ := ho
      simp only [AV.list.injEq, true_and] at h4
      obtain ⟨h4, rfl⟩ := h4
      refine part l cnt lo hi row es0 f0 h1 h2 h3 h4.symm rfl h5 ?_
      rintro H' m' row' es' e1 e2 e3 e4 e5 e6 e7
      exact hK H' (m' + 1) e1 e2 ⟨row', es', f0, e3, e4, e6, by rw [e5, e7], h5⟩
    | agg cs => obtain ⟨ds, _, e⟩ := ho; cases e
    | tup cs => obtain ⟨ds, _, e⟩ := ho; cases e
    | _ => exact ho.elim

/-! The rounds. -/
theorem acc_step {g : List AV → Int → List AV × Int} {seg : List (List AV)} {k : Int} {i : Nat} (h : i < seg.length) : mapAcc g (seg.take (i + 1)) k = ((mapAcc g (seg.take i) k).1 ++ [(g seg[i] (mapAcc g (seg.take i) k).2).1], (g seg[i] (mapAcc g (seg.take i) k).2).2) := by
  rw [List.take_add_one, List.getElem?_eq_getElem h, Option.toList_some, mapAcc_snoc]
theorem acc_all {g : List AV → Int → List AV × Int} {seg : List (List AV)} {k : Int} {i : Nat} (h : seg.length ≤ i) : mapAcc g (seg.take i) k = mapAcc g seg k := by rw [List.take_of_length_le h]
theorem cnt_take {c : List AV → Nat} : ∀ {seg : List (List AV)} {i : Nat} (h : i < seg.length), cntAcc c (seg.take i) + c seg[i] ≤ cntAcc c seg
  | x :: xs, 0, h => by simp [cntAcc]
  | x :: xs, i + 1, h => by
    have := cnt_take (c := c) (seg := xs) (i := i) (by simpa using h)
    simp only [List.take_succ_cons, cntAcc, List.getElem_cons_succ]; omega
theorem seg_at {rs seg : List (List AV)} {A : List (List AV)} {lo hi i : Nat} (h : (rs.take hi).drop lo = A ++ seg.drop i) (hA : A.length = i) (hi' : i < seg.length) : lo + i < rs.length ∧ rs[lo + i]? = some seg[i] ∧ lo + i < hi := by
  have h1 : ((rs.take hi).drop lo)[i]? = some seg[i] := by
    rw [h, List.getElem?_append_right (by omega), hA, Nat.sub_self, List.getElem?_drop, Nat.add_zero, List.getElem?_eq_getElem hi']
  rw [List.getElem?_drop, List.getElem?_take] at h1
  split at h1
  · rename_i q
    exact ⟨(List.getElem?_eq_some_iff.1 h1).1, h1, q⟩
  · cases h1
theorem seg_step {rs seg : List (List AV)} {A : List (List AV)} {lo hi i : Nat} {d : List AV} (h : (rs.take hi).drop lo = A ++ seg.drop i) (hA : A.length = i) (hi' : i < seg.length) : ((rs.set (lo + i) d).take hi).drop lo = (A ++ [d]) ++ seg.drop (i + 1) := by
  obtain ⟨h1, h2, h3⟩ := seg_at h hA hi'
  rw [List.take_set, List.drop_set, if_neg (by omega), h, Nat.add_sub_cancel_left, List.set_append_right _ _ (by omega), hA, Nat.sub_self, List.drop_eq_getElem_cons hi', List.set_cons_zero, List.append_assoc]
  rfl

/-! An element, cell by cell. -/
theorem OwnL.inv_nil {R : AV → AV → List Nat → Prop} {cs : List AV} {f : List Nat} (h : OwnL R cs [] f) : cs = [] ∧ f = [] := by
  cases cs with
  | nil => exact ⟨rfl, h.2⟩
  | cons c cs => obtain ⟨d, ds', g, g', e, _⟩ := h; cases e
theorem OwnL.inv_cons {R : AV → AV → List Nat → Prop} {cs ds : List AV} {d : AV} {f : List Nat} (h : OwnL R cs (d :: ds) f) : ∃ c cs' g g', cs = c :: cs' ∧ f = g ++ g' ∧ R c d g ∧ OwnL R cs' ds g' := by
  cases cs with
  | nil => obtain ⟨e, _⟩ := h; cases e
  | cons c cs =>
    obtain ⟨d', ds', g, g', e, e2, h1, h2⟩ := h
    simp only [List.cons.injEq] at e
    obtain ⟨rfl, rfl⟩ := e
    exact ⟨c, cs, g, g', rfl, e2, h1, h2⟩
theorem OwnL.inv_val {H : List Row} {m : Nat} {cs ds : List AV} {v : Value} {f : List Nat} (h : OwnL (Own H m) cs (.val v :: ds) f) : ∃ cs', cs = .val v :: cs' ∧ OwnL (Own H m) cs' ds f := by
  obtain ⟨c, cs', g, g', rfl, rfl, h1, h2⟩ := h.inv_cons
  obtain ⟨rfl, rfl⟩ := h1.of_val
  exact ⟨cs', rfl, h2⟩
theorem OwnL.mk_nil (R : AV → AV → List Nat → Prop) : OwnL R [] [] [] := ⟨rfl, rfl⟩
theorem OwnL.mk_val {H : List Row} {m : Nat} {cs ds : List AV} {f : List Nat} (v : Value) (h : OwnL (Own H (m + 1)) cs ds f) : OwnL (Own H (m + 1)) (.val v :: cs) (.val v :: ds) f := ⟨_, _, [], f, rfl, rfl, Own.mk_val _ _ _, h⟩
theorem OwnL.mk_list {H : List Row} {m n : Nat} {c r : AV} {cs ds : List AV} {f g : List Nat} (h1 : Own H m c r g) (h : OwnL (Own H (n + 1)) cs ds f) : OwnL (Own H (m + n + 1)) (c :: cs) (r :: ds) (g ++ f) := ⟨_, _, g, f, rfl, rfl, Own.up (by omega) h1, OwnL.up (by omega) h⟩
theorem Own.cell_list {H : List Row} {m : Nat} {c : AV} {tk sz : Nat} {es : List (List AV)} {g : List Nat} (h : Own H m c (.list tk sz es) g) : c.cell = true := by
  cases m with
  | zero => exact h.elim
  | succ m =>
    cases c with
    | val v => obtain ⟨_, e | ⟨rfl, _⟩⟩ := h
               · cases e
               · rfl
    | own l k => rfl
    | sub l k lo hi => rfl
    | agg cs => obtain ⟨_, _, e⟩ := h; cases e
    | tup cs => obtain ⟨_, _, e⟩ := h; cases e
    | _ => exact h.elim
theorem MT.elem {H0 : List Row} {l : Nat} {E : Tag} {sz cnt : Nat} {f : List Nat} {rs : List (List AV)} {H : List Row} {j : Nat} {d : List AV} (h : MT H0 l E sz cnt f rs H) (hl : l ∉ f) (nd : f.Nodup) (hd : rs[j]? = some d) :
    ∃ m es e f2, H[l]? = some ⟨E, sz, es⟩ ∧ es.length = cnt ∧ es[j]? = some e ∧ OwnL (Own H (m + 1)) e d f2 ∧ f2.Nodup ∧ l ∉ f2 ∧
      ∀ H' e' d', H'.length = H.length → H'[l]? = some ⟨E, sz, es.set j e'⟩ → (∀ x, x ∉ l :: f2 → H'[x]? = H[x]?) → (∃ m', OwnL (Own H' m') e' d' f2) → MT H0 l E sz cnt f (rs.set j d') H' := by
  obtain ⟨⟨m, es, h1, h2, h3⟩, h4, h5⟩ := h
  obtain ⟨e, f1, f2, f3, q1, q2, q3, q4⟩ := h3.split j hd
  subst q2
  simp only [List.nodup_append, List.mem_append] at nd
  obtain ⟨n1, ⟨n2, n3, n4⟩, n5⟩ := nd
  refine ⟨m, es, e, f2, h1, h2, q1, q3, n2, fun q => hl (by simp [q]), fun H' e' d' e1 e2 e3 ⟨m', e4⟩ => ⟨⟨m + m', _, e2, by simpa using h2, ?_⟩, by rw [e1, h4], fun x hx => ?_⟩⟩
  · refine q4 (Own H' (m + m' + 1)) e' d' (fun a r g hg ho => Own.up (by omega) (ho.keep fun x hx => e3 x ?_)) (OwnL.up (by omega) e4)
    rw [List.mem_cons]
    rintro (rfl | q)
    · exact hl (by rcases hg _ hx with q | q <;> simp [q])
    · rcases hg x hx with q' | q'
      · exact n5 x q' x (.inl q) rfl
      · exact n4 x q x q' rfl
  · rw [e3 x (fun q => hx (by rcases List.mem_cons.1 q with q | q <;> simp [q]))]
    exact h5 x hx
theorem set_same {α : Type} {l : List α} {j : Nat} {d : α} (h : l[j]? = some d) : l.set j d = l := by
  obtain ⟨hlt, e⟩ := List.getElem?_eq_some_iff.1 h
  rw [← e]; exact List.set_getElem_self hlt

/-! A struct that is handed over: its slices alone are marked. -/
section
variable (mt : Int → ByteArray)
def mkTop : List Sch → List AV → Int → List AV × Int
  | .list fs :: ss, c :: cs, k => ((mkCell mt (.list fs) c k).1 :: (mkTop ss cs (mkCell mt (.list fs) c k).2).1, (mkTop ss cs (mkCell mt (.list fs) c k).2).2)
  | _ :: ss, c :: cs, k => (c :: (mkTop ss cs k).1, (mkTop ss cs k).2)
  | _, cs, k => (cs, k)
def hdTop : List Sch → List AV → Int → Int
  | .list fs :: ss, c :: cs, k => if hdCell mt (.list fs) c k < 0 then -1 else hdTop ss cs (hdCell mt (.list fs) c k)
  | _ :: ss, _ :: cs, k => hdTop ss cs k
  | _, _, k => k
end
def cntTop : List Sch → List AV → Nat
  | .list fs :: ss, c :: cs => cntCell (.list fs) c + cntTop ss cs
  | _ :: ss, _ :: cs => cntTop ss cs
  | _, _ => 0
variable {mt : Int → ByteArray}
theorem mkTop_cnt : ∀ (fs : List Sch) (cs : List AV) (k : Int), (mkTop mt fs cs k).2 = k + cntTop fs cs
  | [], cs, k => by simp [mkTop, cntTop]
  | .list fs :: ss, [], k => by simp [mkTop, cntTop]
  | .int :: ss, [], k => by simp [mkTop, cntTop]
  | .str :: ss, [], k => by simp [mkTop, cntTop]
  | .bool :: ss, [], k => by simp [mkTop, cntTop]
  | .list fs :: ss, c :: cs, k => by simp only [mkTop, cntTop]; rw [mkTop_cnt ss, mkCell_cnt]; omega
  | .int :: ss, c :: cs, k => by simp only [mkTop, cntTop]; exact mkTop_cnt ss cs k
  | .str :: ss, c :: cs, k => by simp only [mkTop, cntTop]; exact mkTop_cnt ss cs k
  | .bool :: ss, c :: cs, k => by simp only [mkTop, cntTop]; exact mkTop_cnt ss cs k
theorem hdTop_mk : ∀ (fs : List Sch) (cs : List AV) (k : Int), shEl fs cs → 0 ≤ k → hdTop mt fs (mkTop mt fs cs k).1 k = (mkTop mt fs cs k).2
  | [], cs, k, _, hk => by simp [mkTop, hdTop]
  | .list fs :: ss, cs, k, h, hk => by
    unfold shEl at h
    obtain ⟨c, r, rfl, h1, h2⟩ := h
    simp only [mkTop, hdTop]
    rw [hdCell_mk _ c k h1 hk, mkCell_cnt, if_neg (by omega)]
    exact hdTop_mk ss r _ h2 (by omega)
  | .int :: ss, cs, k, h, hk => by
    unfold shEl at h
    obtain ⟨c, r, rfl, h1, h2⟩ := h
    simp only [mkTop, hdTop]
    exact hdTop_mk ss r _ h2 hk
  | .str :: ss, cs, k, h, hk => by
    unfold shEl at h
    obtain ⟨c, r, rfl, h1, h2⟩ := h
    simp only [mkTop, hdTop]
    exact hdTop_mk ss r _ h2 hk
  | .bool :: ss, cs, k, h, hk => by
    unfold shEl at h
    obtain ⟨c, r, rfl, h1, h2⟩ := h
    simp only [mkTop, hdTop]
    exact hdTop_mk ss r _ h2 hk
theorem mkTop_sh : ∀ (fs : List Sch) (cs : List AV) (k : Int), shEl fs cs → shEl fs (mkTop mt fs cs k).1
  | [], cs, k, h => by unfold shEl at h; simp [mkTop, shEl, h]
  | .list fs :: ss, cs, k, h => by
    unfold shEl at h
    obtain ⟨c, r, rfl, h1, h2⟩ := h
    simp only [mkTop]
    unfold shEl
    exact ⟨_, _, rfl, mkCell_sh _ c k h1, mkTop_sh ss r _ h2⟩
  | .int :: ss, cs, k, h => by
    unfold shEl at h
    obtain ⟨c, r, rfl, h1, h2⟩ := h
    simp only [mkTop]
    unfold shEl
    exact ⟨_, _, rfl, h1, mkTop_sh ss r _ h2⟩
  | .str :: ss, cs, k, h => by
    unfold shEl at h
    obtain ⟨c, r, rfl, h1, h2⟩ := h
    simp only [mkTop]
    unfold shEl
    exact ⟨_, _, rfl, h1, mkTop_sh ss r _ h2⟩
  | .bool :: ss, cs, k, h => by
    unfold shEl at h
    obtain ⟨c, r, rfl, h1, h2⟩ := h
    simp only [mkTop]
    unfold shEl
    exact ⟨_, _, rfl, h1, mkTop_sh ss r _ h2⟩
def MarkA (P : Program) (F : FuncId) (mt : Int → ByteArray) (fs : List Sch) : Prop :=
  ∀ (m : Nat) (cs ds : List AV) (f : List Nat) (H : List Row) (k : Int) (K : AV → List Row → Prop), OwnL (Own H m) cs ds f → f.Nodup → shEl fs ds → 0 ≤ k → k + cntTop fs ds ≤ 4611686018427387904 →
    (∀ H', H.length ≤ H'.length → (∀ x, x < H.length → x ∉ f → H'[x]? = H[x]?) → (∃ m', OwnL (Own H' m') cs (mkTop mt fs ds k).1 f) → K (.val (.int .i64 (mkTop mt fs ds k).2)) H') →
    callSem P F [.agg cs, .val (.int .i64 k)] H K

/-! Looking, cell by cell. -/
theorem hdEl_int {ss : List Sch} {cs : List AV} {n k : Int} (h : n = k) (hk : 0 ≤ k) : hdEl mt (.int :: ss) (.val (.int .i64 n) :: cs) k = hdEl mt ss cs (k + 1) := by
  have e : hdCell mt .int (.val (.int .i64 n)) k = k + 1 := by simp only [hdCell]; rw [if_pos h]
  simp only [hdEl]; rw [e, if_neg (by omega)]
theorem hdEl_int' {ss : List Sch} {cs : List AV} {n k : Int} (h : ¬ n = k) : hdEl mt (.int :: ss) (.val (.int .i64 n) :: cs) k = -1 := by
  have e : hdCell mt .int (.val (.int .i64 n)) k = -1 := by simp only [hdCell]; rw [if_neg h]
  simp only [hdEl]; rw [e, if_pos (by omega)]
theorem hdEl_str {ss : List Sch} {cs : List AV} {s : ByteArray} {k : Int} (h : s = mt k) (hk : 0 ≤ k) : hdEl mt (.str :: ss) (.val (.string s) :: cs) k = hdEl mt ss cs (k + 1) := by
  have e : hdCell mt .str (.val (.string s)) k = k + 1 := by simp only [hdCell]; rw [if_pos h]
  simp only [hdEl]; rw [e, if_neg (by omega)]
theorem hdEl_str' {ss : List Sch} {cs : List AV} {s : ByteArray} {k : Int} (h : ¬ s = mt k) : hdEl mt (.str :: ss) (.val (.string s) :: cs) k = -1 := by
  have e : hdCell mt .str (.val (.string s)) k = -1 := by simp only [hdCell]; rw [if_neg h]
  simp only [hdEl]; rw [e, if_pos (by omega)]
theorem hdEl_bool {ss : List Sch} {cs : List AV} {b : Bool} {k : Int} (h : b = decide (k % 3 = 0)) (hk : 0 ≤ k) : hdEl mt (.bool :: ss) (.val (.bool b) :: cs) k = hdEl mt ss cs (k + 1) := by
  have e : hdCell mt .bool (.val (.bool b)) k = k + 1 := by simp only [hdCell]; rw [if_pos h]
  simp only [hdEl]; rw [e, if_neg (by omega)]
theorem hdEl_bool' {ss : List Sch} {cs : List AV} {b : Bool} {k : Int} (h : ¬ b = decide (k % 3 = 0)) : hdEl mt (.bool :: ss) (.val (.bool b) :: cs) k = -1 := by
  have e : hdCell mt .bool (.val (.bool b)) k = -1 := by simp only [hdCell]; rw [if_neg h]
  simp only [hdEl]; rw [e, if_pos (by omega)]
theorem hdEl_list {ss fs : List Sch} {cs : List AV} {tk sz : Nat} {es : List (List AV)} {k : Int} (h : ¬ hdAcc (hdEl mt fs) es k < 0) : hdEl mt (.list fs :: ss) (.list tk sz es :: cs) k = hdEl mt ss cs (hdAcc (hdEl mt fs) es k) := by
  have e : hdCell mt (.list fs) (.list tk sz es) k = hdAcc (hdEl mt fs) es k := by simp only [hdCell]
  simp only [hdEl]; rw [e, if_neg h]
theorem hdEl_list' {ss fs : List Sch} {cs : List AV} {tk sz : Nat} {es : List (List AV)} {k : Int} (h : hdAcc (hdEl mt fs) es k < 0) : hdEl mt (.list fs :: ss) (.list tk sz es :: cs) k = -1 := by
  have e : hdCell mt (.list fs) (.list tk sz es) k = hdAcc (hdEl mt fs) es k := by simp only [hdCell]
  simp only [hdEl]; rw [e, if_pos h]
theorem hdEl_nil {cs : List AV} {k : Int} : hdEl mt [] cs k = k := by simp [hdEl]
theorem hdAcc_neg {g : List AV → Int → Int} {e : List AV} {es : List (List AV)} {k : Int} (h : g e k = -1) : hdAcc g (e :: es) k = -1 := by
  simp only [hdAcc]; rw [if_pos (by omega)]
theorem hdAcc_pos {g : List AV → Int → Int} {e : List AV} {es : List (List AV)} {k z : Int} (h : g e k = z) (hz : 0 ≤ z) : hdAcc g (e :: es) k = hdAcc g es z := by
  simp only [hdAcc]; rw [h, if_neg (by omega)]
theorem hdAcc_at {g : List AV → Int → Int} {es : List (List AV)} {k : Int} {i : Nat} (h : i < es.length) : hdAcc g (es.drop i) k = hdAcc g (es[i] :: es.drop (i + 1)) k := by rw [List.drop_eq_getElem_cons h]
theorem cnt_at {c : List AV → Nat} {es : List (List AV)} {i : Nat} (h : i < es.length) : cntAcc c (es.drop i) = c es[i] + cntAcc c (es.drop (i + 1)) := by rw [List.drop_eq_getElem_cons h]; rfl
theorem hdAcc_le {g : List AV → Int → Int} {c : List AV → Nat} {es : List (List AV)} (hg : ∀ e ∈ es, ∀ k, 0 ≤ k → g e k = -1 ∨ g e k = k + c e) (k : Int) (hk : 0 ≤ k) : hdAcc g es k = -1 ∨ hdAcc g es k = k + cntAcc c es := by
  induction es generalizing k with
  | nil => right; simp [hdAcc, cntAcc]
  | cons e es ih =>
    rcases hg e (by simp) k hk with q | q
    · left; exact hdAcc_neg q
    · rw [hdAcc_pos q (by omega)]
      rcases ih (fun x hx => hg x (by simp [hx])) (k + c e) (by omega) with p | p
      · exact .inl p
      · right; rw [p, cntAcc]; omega
mutual
theorem hdCell_le : ∀ (s : Sch) (a : AV) (k : Int), shCell s a → 0 ≤ k → hdCell mt s a k = -1 ∨ hdCell mt s a k = k + cntCell s a
  | .int, a, k, h, hk => by
    unfold shCell at h; obtain ⟨n, rfl⟩ := h
    simp only [hdCell, cntCell]; split <;> simp
  | .str, a, k, h, hk => by
    unfold shCell at h; obtain ⟨n, rfl⟩ := h
    simp only [hdCell, cntCell]; split <;> simp
  | .bool, a, k, h, hk => by
    unfold shCell at h; obtain ⟨n, rfl⟩ := h
    simp only [hdCell, cntCell]; split <;> simp
  | .list fs, a, k, h, hk => by
    unfold shCell at h
    obtain ⟨es, rfl, h⟩ := h
    simp only [hdCell, cntCell]
    exact hdAcc_le (fun e he k hk => hdEl_le fs e k (h e he) hk) k hk
theorem hdEl_le : ∀ (fs : List Sch) (cs : List AV) (k : Int), shEl fs cs → 0 ≤ k → hdEl mt fs cs k = -1 ∨ hdEl mt fs cs k = k + cntEl fs cs
  | [], cs, k, _, hk => by simp [hdEl, cntEl]
  | s :: ss, cs, k, h, hk => by
    unfold shEl at h
    obtain ⟨c, r, rfl, h1, h2⟩ := h
    simp only [hdEl, cntEl]
    rcases hdCell_le s c k h1 hk with q | q
    · left; rw [q, if_pos (by omega)]
    · rw [q, if_neg (by omega)]
      rcases hdEl_le ss r (k + cntCell s c) h2 (by omega) with p | p
      · exact .inl p
      · right; rw [p]; omega
end
theorem cnt_len {c : List AV → Nat} : ∀ {es : List (List AV)}, (∀ e ∈ es, 1 ≤ c e) → es.length ≤ cntAcc c es
  | [], _ => by simp
  | e :: es, h => by
    have := cnt_len (c := c) (es := es) (fun x hx => h x (by simp [hx]))
    have := h e (by simp)
    simp only [cntAcc, List.length_cons]; omega
end Go.AW

namespace Go.AW

/-- A tree whose rows lie from lo on, below hi. -/
structure FreshB (lo hi : Nat) (H : List Row) (a r : AV) : Prop where
  out : ∃ n fs, Own H n a r fs ∧ fs.Nodup ∧ ∀ l ∈ fs, lo ≤ l ∧ l < hi
structure FreshLB (lo hi : Nat) (H : List Row) (as rs : List AV) : Prop where
  out : ∃ n fs, OwnL (Own H n) as rs fs ∧ fs.Nodup ∧ ∀ l ∈ fs, lo ≤ l ∧ l < hi
structure FreshLLB (lo hi : Nat) (H : List Row) (es rs : List (List AV)) : Prop where
  out : ∃ n fs, OwnLL (Own H n) es rs fs ∧ fs.Nodup ∧ ∀ l ∈ fs, lo ≤ l ∧ l < hi
section
variable {lo hi mid : Nat} {H H' : List Row} {a r : AV} {as rs as' rs' : List AV} {es ds : List (List AV)}
theorem Fresh.b (h : Fresh lo H a r) : FreshB lo H.length H a r := by
  obtain ⟨n, fs, h1, h2, h3⟩ := h
  exact ⟨n, fs, h1, h2, fun l hl => ⟨h3 l hl, h1.lt l hl⟩⟩
theorem FreshB.fresh (h : FreshB lo hi H a r) : Fresh lo H a r := by
  obtain ⟨n, fs, h1, h2, h3⟩ := h
  exact ⟨n, fs, h1, h2, fun l hl => (h3 l hl).1⟩
theorem FreshB.keep (hk : ∀ l, lo ≤ l → l < hi → H'[l]? = H[l]?) (h : FreshB lo hi H a r) : FreshB lo hi H' a r := by
  obtain ⟨n, fs, h1, h2, h3⟩ := h
  exact ⟨n, fs, h1.keep fun l hl => hk l (h3 l hl).1 (h3 l hl).2, h2, h3⟩
theorem FreshLB.keep (hk : ∀ l, lo ≤ l → l < hi → H'[l]? = H[l]?) (h : FreshLB lo hi H as rs) : FreshLB lo hi H' as rs := by
  obtain ⟨n, fs, h1, h2, h3⟩ := h
  exact ⟨n, fs, OwnL.mono (fun a r g hg ho => ho.keep fun l hl => hk l (h3 l (hg l hl)).1 (h3 l (hg l hl)).2) h1, h2, h3⟩
theorem FreshLLB.keep (hk : ∀ l, lo ≤ l → l < hi → H'[l]? = H[l]?) (h : FreshLLB lo hi H es ds) : FreshLLB lo hi H' es ds := by
  obtain ⟨n, fs, h1, h2, h3⟩ := h
  exact ⟨n, fs, OwnLL.mono (fun a r g hg ho => ho.keep fun l hl => hk l (h3 l (hg l hl)).1 (h3 l (hg l hl)).2) h1, h2, h3⟩
theorem FreshB.widen {lo' hi' : Nat} (h1 : lo' ≤ lo) (h2 : hi ≤ hi') (h : FreshB lo hi H a r) : FreshB lo' hi' H a r := by
  obtain ⟨n, fs, q1, q2, q3⟩ := h
  exact ⟨n, fs, q1, q2, fun l hl => by have := q3 l hl; omega⟩
theorem FreshLB.widen {lo' hi' : Nat} (h1 : lo' ≤ lo) (h2 : hi ≤ hi') (h : FreshLB lo hi H as rs) : FreshLB lo' hi' H as rs := by
  obtain ⟨n, fs, q1, q2, q3⟩ := h
  exact ⟨n, fs, q1, q2, fun l hl => by have := q3 l hl; omega⟩
theorem FreshLLB.widen {lo' hi' : Nat} (h1 : lo' ≤ lo) (h2 : hi ≤ hi') (h : FreshLLB lo hi H es ds) : FreshLLB lo' hi' H es ds := by
  obtain ⟨n, fs, q1, q2, q3⟩ := h
  exact ⟨n, fs, q1, q2, fun l hl => by have := q3 l hl; omega⟩
theorem FreshB.mkval (lo hi : Nat) (H : List Row) (v : Value) : FreshB lo hi H (.val v) (.val v) := ⟨1, [], Own.mk_val H 0 v, List.nodup_nil, by simp⟩
theorem FreshB.mknil (lo hi : Nat) (H : List Row) (sz : Nat) : FreshB lo hi H (.val (.slice none 0 0)) (.list 0 sz []) := ⟨1, [], ⟨rfl, .inr ⟨rfl, _, rfl⟩⟩, List.nodup_nil, by simp⟩
theorem FreshLB.nil (lo hi : Nat) (H : List Row) : FreshLB lo hi H [] [] := ⟨0, [], ⟨rfl, rfl⟩, List.nodup_nil, by simp⟩
theorem FreshLLB.nil (lo hi : Nat) (H : List Row) : FreshLLB lo hi H [] [] := ⟨0, [], ⟨rfl, rfl⟩, List.nodup_nil, by simp⟩
theorem FreshLB.cons (h1 : FreshB lo mid H a r) (h2 : FreshLB mid hi H as rs) (hm : lo ≤ mid ∧ mid ≤ hi) : FreshLB lo hi H (a :: as) (r :: rs) := by
  obtain ⟨n, fs, p1, p2, p3⟩ := h1
  obtain ⟨m, gs, q1, q2, q3⟩ := h2
  refine ⟨n + m, fs ++ gs, ⟨r, rs, fs, gs, rfl, rfl, Own.up (by omega) p1, OwnL.up (by omega) q1⟩, ?_, fun l hl => ?_⟩
  · rw [List.nodup_append]
    exact ⟨p2, q2, fun x hx y hy => by have := p3 x hx; have := q3 y hy; omega⟩
  · rcases List.mem_append.1 hl with q | q
    · have := p3 l q; omega
    · have := q3 l q; omega
theorem FreshLB.val (v : Value) (h2 : FreshLB lo hi H as rs) : FreshLB lo hi H (.val v :: as) (.val v :: rs) := by
  obtain ⟨m, gs, q1, q2, q3⟩ := h2
  exact ⟨m + 1, gs, ⟨.val v, rs, [], gs, rfl, rfl, Own.mk_val _ _ _, OwnL.up (by omega) q1⟩, q2, q3⟩
theorem FreshLLB.snoc (h1 : FreshLLB lo mid H es ds) (h2 : FreshLB mid hi H as rs) (hm : lo ≤ mid ∧ mid ≤ hi) : FreshLLB lo hi H (es ++ [as]) (ds ++ [rs]) := by
  obtain ⟨n, fs, p1, p2, p3⟩ := h1
  obtain ⟨m, gs, q1, q2, q3⟩ := h2
  refine ⟨n + m, fs ++ gs, ?_, ?_, fun l hl => ?_⟩
  · have p1' := OwnLL.up (Nat.le_add_right n m) p1
    have q1' := OwnL.up (Nat.le_add_left m n) q1
    clear p1 q1 p2 p3 q2 q3
    induction es generalizing ds fs with
    | nil =>
      obtain ⟨rfl, rfl⟩ := p1'
      exact ⟨rs, [], gs, [], rfl, by simp, q1', rfl, rfl⟩
    | cons e es ih =>
      obtain ⟨d, ds', f, f', rfl, rfl, g1, g2⟩ := p1'
      exact ⟨d, ds' ++ [rs], f, f' ++ gs, rfl, by simp, g1, ih _ g2⟩
  · rw [List.nodup_append]
    exact ⟨p2, q2, fun x hx y hy => by have := p3 x hx; have := q3 y hy; omega⟩
  · rcases List.mem_append.1 hl with q | q
    · have := p3 l q; omega
    · have := q3 l q; omega
theorem FreshB.agg (h : FreshLB lo hi H as rs) : FreshB lo hi H (.agg as) (.agg rs) := by
  obtain ⟨n, fs, p1, p2, p3⟩ := h
  exact ⟨n + 1, fs, ⟨rs, p1, rfl⟩, p2, p3⟩
theorem FreshB.tup (h : FreshLB lo hi H as rs) : FreshB lo hi H (.tup as) (.tup rs) := by
  obtain ⟨n, fs, p1, p2, p3⟩ := h
  exact ⟨n + 1, fs, ⟨rs, p1, rfl⟩, p2, p3⟩
theorem FreshB.unagg (h : FreshB lo hi H (.agg as) (.agg rs)) : FreshLB lo hi H as rs := by
  obtain ⟨n, fs, p1, p2, p3⟩ := h
  cases n with
  | zero => exact p1.elim
  | succ n =>
    obtain ⟨ds, q1, q2⟩ := p1
    cases q2
    exact ⟨n, fs, q1, p2, p3⟩
theorem FreshB.untup (h : FreshB lo hi H (.tup as) (.tup rs)) : FreshLB lo hi H as rs := by
  obtain ⟨n, fs, p1, p2, p3⟩ := h
  cases n with
  | zero => exact p1.elim
  | succ n =>
    obtain ⟨ds, q1, q2⟩ := p1
    cases q2
    exact ⟨n, fs, q1, p2, p3⟩
/-- A slice over a row of its own. -/
theorem FreshB.mkown {lo' l k : Nat} {E : Tag} {sz : Nat} (h : FreshLLB lo hi H es ds) (hl : H[l]? = some ⟨E, sz, es⟩) (hk : es.length = k) (h1 : lo' ≤ l) (h2 : l < lo) (h3 : lo ≤ hi) : FreshB lo' hi H (.own l k) (.list 0 sz ds) := by
  obtain ⟨n, fs, p1, p2, p3⟩ := h
  refine ⟨n + 1, l :: fs, ⟨⟨E, sz, es⟩, ds, fs, hl, hk, p1, rfl, rfl⟩, ?_, fun x hx => ?_⟩
  · rw [List.nodup_cons]
    exact ⟨fun q => by have := p3 l q; omega, p2⟩
  · rcases List.mem_cons.1 hx with q | q
    · subst q; omega
    · have := p3 x q; omega
theorem FreshLLB.ofVals (lo hi : Nat) (H : List Row) : ∀ (es : List (List AV)), (∀ e ∈ es, ∀ c ∈ e, ∃ v, c = .val v) → FreshLLB lo hi H es es
  | [], _ => .nil lo hi H
  | e :: es, h => by
    obtain ⟨n, fs, p1, p2, p3⟩ := FreshLLB.ofVals lo hi H es (fun x hx => h x (by simp [hx]))
    have he : ∀ (cs : List AV), (∀ c ∈ cs, ∃ v, c = .val v) → OwnL (Own H (n + 1)) cs cs [] := by
      intro cs
      induction cs with
      | nil => intro _; exact ⟨rfl, rfl⟩
      | cons c cs ih =>
        intro hc
        obtain ⟨v, rfl⟩ := hc c (by simp)
        exact ⟨_, _, [], [], rfl, rfl, Own.mk_val _ _ _, ih fun x hx => hc x (by simp [hx])⟩
    exact ⟨n + 1, fs, ⟨e, es, [], fs, rfl, rfl, he e (h e (by simp)), OwnLL.up (by omega) p1⟩, p2, p3⟩
/-- Arguments: trees that are read. -/
theorem FreshB.arg (h : FreshB lo hi H a r) : ArgOwn H a r := by
  obtain ⟨n, fs, h1, _⟩ := h
  exact .inr ⟨n, fs, h1⟩
theorem ArgsOwn.two {b q : AV} (h1 : ArgOwn H a r) (h2 : ArgOwn H b q) : ArgsOwn H [a, b] [r, q] := ⟨_, _, rfl, h1, _, _, rfl, h2, rfl⟩
theorem ArgsOwn.one (h1 : ArgOwn H a r) : ArgsOwn H [a] [r] := ⟨_, _, rfl, h1, rfl⟩
theorem ArgOwn.same (hp : a.plain = true) : ArgOwn H a a := .inl ⟨rfl, hp⟩
theorem ArgsOwn.cons (h1 : ArgOwn H a r) (h2 : ArgsOwn H as rs) : ArgsOwn H (a :: as) (r :: rs) := ⟨_, _, rfl, h1, h2⟩
theorem ArgsOwn.nil : ArgsOwn H [] [] := rfl
end
/-- A function that is given no row, whatever way its result is read. -/
theorem pure_callG {P : Program} {f : FuncId} {args : List AV} {R : AV → Prop} (D : AV → List Row → AV → Prop) (hD : ∀ (S : Sit) (h : List Row) (w : World) (a r : AV) (x : Value), Models S h w → Rep S a x → D a h r → Rep (S.shut w) r x) (hp : args.all AV.plain = true) (hw : callSem P f args [] fun av h' => ∃ r, D av h' r ∧ R r) (h : List Row) (K : AV → List Row → Prop) (hk : ∀ r, R r → K r h) : callSem P f args h K := by
  intro S w vals hm hgl hr
  have hm0 : Models S.still [] w := ⟨hm.imm, rfl, by simp [Sit.still], by simp [Sit.still]⟩
  refine (hw S.still w vals hm0 hgl (plainL_still hp hr)).mono ?_
  rintro e w' ⟨v, av, S1, h1, rfl, st, hm1, rv, r, hres, hR⟩
  have rr := hD S1 h1 w' av r v hm1 rv hres
  have hnone : ∀ b, ¬ S.still.owns b := by
    rintro b ⟨l, i, q, _⟩
    simp [Sit.still] at q
  have hblk : ∀ b, b < w.heap.size → w'.heap[b]? = w.heap[b]? := fun b hb => st.block b hb (hnone b)
  have hown1 : ∀ b, S1.owns b → w.heap.size ≤ b := fun b hb => by
    rcases st.ownNew b hb with q | q
    · exact absurd q (hnone b)
    · exact q
  have himm1 : ∀ b c, S1.imm b = some c → S.imm b = some c ∨ w.heap.size ≤ b := fun b c hb => by
    rcases st.immNew b c hb with q | q | q
    · exact .inl q
    · exact absurd q (hnone b)
    · exact .inr q
  have hshut : ∀ b c, (S1.shut w').imm b = some c → S.imm b = some c ∨ w.heap.size ≤ b := by
    intro b c hb
    simp only [Sit.shut] at hb
    split at hb
    · rename_i hq
      exact .inr (hown1 b (ownsB_iff.1 hq))
    · exact himm1 b c hb
  have hle : S.le { imm := (S1.shut w').imm, rows := S.rows } := by
    refine ⟨fun b c e => ?_, fun l i e => ⟨i, e, Nat.le_refl _, fun _ => rfl⟩⟩
    exact (shut_le hm1).imm b c (st.le.imm b c e)
  refine ⟨v, r, { imm := (S1.shut w').imm, rows := S.rows }, h, rfl, ⟨hle, st.os, st.tape, st.output, st.size, fun b hb _ => hblk b hb, fun b q => .inl q, fun b c q => ?_⟩, ⟨fun b c q => ?_, hm.len, fun l i rw q1 q2 => ?_, hm.one⟩, ?_, hk r hR⟩
  · rcases hshut b c q with q | q
    · exact .inl q
    · exact .inr (.inr q)
  · simp only [Sit.shut] at q
    split at q
    · split at q
      · rename_i c' E fr hb
        simp at q; subst q
        exact ⟨E, fr, hb⟩
      · simp at q
    · exact hm1.imm b c q
  · obtain ⟨k1, k2, k3, k4⟩ := hm.rows l i rw q1 q2
    refine ⟨k1, k2, k3, ?_⟩
    cases hb : i.blk with
    | none => rw [hb] at k4; exact k4
    | some b =>
      rw [hb] at k4
      have j1 := k4.1
      have hlt := hm.ownLt ⟨l, i, q1, hb⟩
      refine ⟨?_, k4.2.le hle (hblk b hlt)⟩
      cases q : (S1.shut w').imm b with
      | none => rfl
      | some d =>
        rcases hshut b d q with q' | q'
        · rw [j1] at q'; cases q'
        · omega
  · have hl2 : (S1.shut w').le { imm := (S1.shut w').imm, rows := S.rows } := ⟨fun _ _ e => e, by simp [Sit.shut]⟩
    exact Rep.up hl2 _ _ rr

theorem FreshCall.pure {P : Program} {f : FuncId} {args : List AV} {r : AV} {Q : AV → Prop} (hc : FreshCall P f args r Q) (hp : args.all AV.plain = true) (h : List Row) : PureCall P f args h r := by
  intro K hk
  refine pure_callG (R := fun x => x = r) (fun a h r => ∃ n fs, Own h n a r fs) (fun S h w a r x hm rx ⟨n, fs, ho⟩ => Own.rep hm n a x r fs rx ho) hp ?_ h K (by rintro _ rfl; exact hk)
  refine hc [] _ (fun av hn hf hq => ?_)
  obtain ⟨n, fs, h1, _⟩ := hf
  exact ⟨r, ⟨n, fs, h1⟩, rfl⟩
/-- The same, read over trees of the caller's own. -/
theorem PureCall.own {P : Program} {f : FuncId} {as rs : List AV} {H : List Row} {v : Value} (hc : ∀ h, PureCall P f rs h (.val v)) (ha : ArgsOwn H as rs) : PureCall P f as H (.val v) := fun _ hk => own_call hc ha hk
theorem FreshLB.app {lo mid hi : Nat} {H : List Row} {as rs as' rs' : List AV} (h1 : FreshLB lo mid H as rs) (h2 : FreshLB mid hi H as' rs') (hm : lo ≤ mid ∧ mid ≤ hi) : FreshLB lo hi H (as ++ as') (rs ++ rs') := by
  obtain ⟨n, fs, p1, p2, p3⟩ := h1
  obtain ⟨m, gs, q1, q2, q3⟩ := h2
  refine ⟨n + m, fs ++ gs, ?_, ?_, fun l hl => ?_⟩
  · have p1' := OwnL.up (Nat.le_add_right n m) p1
    have q1' := OwnL.up (Nat.le_add_left m n) q1
    clear p1 q1 p2 p3 q2 q3
    induction as generalizing rs fs with
    | nil =>
      obtain ⟨rfl, rfl⟩ := p1'
      exact q1'
    | cons e es ih =>
      obtain ⟨d, ds', f, f', rfl, rfl, g1, g2⟩ := p1'
      exact ⟨d, ds' ++ rs', f, f' ++ gs, rfl, by simp, g1, ih _ g2⟩
  · rw [List.nodup_append]
    exact ⟨p2, q2, fun x hx y hy => by have := p3 x hx; have := q3 y hy; omega⟩
  · rcases List.mem_append.1 hl with q | q
    · have := p3 l q; omega
    · have := q3 l q; omega
theorem pre_rows {h a b m t : List Row} {l : Nat} (hab : a.length = b.length) (h1 : h.length + b.length ≤ l) (h2 : l < (h ++ (b ++ m)).length) : (h ++ (a ++ (m ++ t)))[l]? = (h ++ (b ++ m))[l]? := by
  simp only [List.length_append] at h2
  have e1 : (h ++ (a ++ (m ++ t)))[l]? = m[l - h.length - a.length]? := by
    rw [List.getElem?_append_right (by omega), List.getElem?_append_right (by omega), List.getElem?_append_left (by omega)]
  have e2 : (h ++ (b ++ m))[l]? = m[l - h.length - b.length]? := by
    rw [List.getElem?_append_right (by omega), List.getElem?_append_right (by omega)]
  rw [e1, e2, hab]
theorem fresh_round {h0 rest hn : List Row} {r r' : Row} {done ds : List (List AV)} {cs rs : List AV} (h1 : FreshLLB (h0.length + 1) (h0 ++ r :: rest).length (h0 ++ r :: rest) done ds) (h2 : Fresh (h0 ++ r :: rest).length ((h0 ++ r :: rest) ++ hn) (.agg cs) (.agg rs)) :
    FreshLLB (h0.length + 1) (h0 ++ r' :: (rest ++ hn)).length (h0 ++ r' :: (rest ++ hn)) (done ++ [cs]) (ds ++ [rs]) := by
  have e : (h0 ++ r :: rest) ++ hn = h0 ++ ([r] ++ (rest ++ hn)) := by simp
  have e' : h0 ++ r' :: (rest ++ hn) = h0 ++ ([r'] ++ (rest ++ hn)) := rfl
  refine FreshLLB.snoc (mid := (h0 ++ r :: rest).length) (h1.keep fun l q1 q2 => ?_) (((h2.b.unagg).keep fun l q1 q2 => ?_).widen (Nat.le_refl _) (by simp)) (by first | (simp; done) | (simp; omega))
  · exact pre_rows (a := [r']) (b := [r]) (m := rest) (t := hn) rfl q1 q2
  · rw [e] at q2 ⊢
    rw [e']
    have := pre_rows (h := h0) (a := [r']) (b := [r]) (m := rest ++ hn) (t := []) rfl (l := l) (by simp at q1 ⊢; omega) q2
    rwa [List.append_nil] at this
theorem fresh_done {h0 rest : List Row} {E : Tag} {sz n : Nat} {done ds : List (List AV)} (h1 : FreshLLB (h0.length + 1) (h0 ++ ⟨E, sz, done⟩ :: rest).length (h0 ++ ⟨E, sz, done⟩ :: rest) done ds) (hn : done.length = n) : Fresh h0.length (h0 ++ ⟨E, sz, done⟩ :: rest) (.own h0.length n) (.list 0 sz ds) :=
  (FreshB.mkown h1 (by rw [getA0]; rfl) hn (Nat.le_refl _) (Nat.lt_succ_self _) (by simp)).fresh
theorem fresh_agg {base : Nat} {H : List Row} {as rs : List AV} (h : FreshLB base H.length H as rs) : Fresh base H (.agg as) (.agg rs) := (FreshB.agg h).fresh
theorem pre3 {h0 m hn t M : List Row} {x1 x2 x3 y1 y2 y3 : Row} {l : Nat} (hM : M = m ++ (hn ++ t)) (h1 : (h0 ++ y1 :: y2 :: y3 :: m).length ≤ l) (h2 : l < ((h0 ++ y1 :: y2 :: y3 :: m) ++ hn).length) : (h0 ++ x1 :: x2 :: x3 :: M)[l]? = ((h0 ++ y1 :: y2 :: y3 :: m) ++ hn)[l]? := by
  subst hM
  have e : (h0 ++ y1 :: y2 :: y3 :: m) ++ hn = h0 ++ ([y1, y2, y3] ++ (m ++ hn)) := by simp
  rw [e] at h2 ⊢
  have := pre_rows (h := h0) (a := [x1, x2, x3]) (b := [y1, y2, y3]) (m := m ++ hn) (t := t) rfl (l := l) (by simp at h1 ⊢; omega) h2
  rw [List.append_assoc] at this
  exact this
end Go.AW

namespace Go.AW

/-- A tree of rows between lo and hi. -/
structure FB (lo hi : Nat) (H : List Row) (a r : AV) : Prop where
  tree : FreshB lo hi H a r
  le : hi ≤ H.length
/-- The older rows stay. -/
structure More (H H' : List Row) : Prop where
  len : H.length ≤ H'.length
  kept : ∀ l, l < H.length → H'[l]? = H[l]?
/-- All rows stay but those of fs. -/
structure But (fs : List Nat) (H H' : List Row) : Prop where
  len : H.length ≤ H'.length
  kept : ∀ l, l < H.length → l ∉ fs → H'[l]? = H[l]?
section
variable {lo hi : Nat} {H H' : List Row} {a r : AV} {fs : List Nat}
theorem More.at {i : Nat} {row : Row} (m : More H H') (o : H[i]? = some row) : H'[i]? = some row := (m.kept i (List.getElem?_eq_some_iff.1 o).1).trans o
theorem More.fb (m : More H H') (f : FB lo hi H a r) : FB lo hi H' a r := ⟨f.tree.keep fun l _ h2 => m.kept l (by have := f.le; omega), Nat.le_trans f.le m.len⟩
theorem More.row (H : List Row) (row : Row) : More H (H ++ [row]) := ⟨by simp, fun l hl => List.getElem?_append_left hl⟩
theorem More.trans {H'' : List Row} (h : More H H') (k : More H' H'') : More H H'' := ⟨Nat.le_trans h.len k.len, fun l hl => (k.kept l (Nat.lt_of_lt_of_le hl h.len)).trans (h.kept l hl)⟩
theorem But.at {i : Nat} {row : Row} (m : But fs H H') (o : H[i]? = some row) (h : i ∉ fs) : H'[i]? = some row := (m.kept i (List.getElem?_eq_some_iff.1 o).1 h).trans o
theorem But.fb (m : But fs H H') (f : FB lo hi H a r) (h : ∀ l, lo ≤ l → l < hi → l ∉ fs) : FB lo hi H' a r := ⟨f.tree.keep fun l h1 h2 => m.kept l (by have := f.le; omega) (h l h1 h2), Nat.le_trans f.le m.len⟩
end
theorem new_row (H : List Row) (r : Row) : (H ++ [r])[H.length]? = some r := by rw [getA0]; rfl
/-- A call that gives a new tree. -/
theorem fresh_step {P : Program} {f : FuncId} {as rs : List AV} {H : List Row} {r : AV} {Q : AV → Prop} (hc : FreshCall P f rs r Q) (ha : ArgsOwn H as rs) {K : AV → List Row → Prop} (hk : ∀ av H', More H H' → FB H.length H'.length H' av r → Q av → K av H') : callSem P f as H K :=
  fresh_own hc ha fun av hn hf hq => hk av (H ++ hn) ⟨by simp, fun l hl => List.getElem?_append_left hl⟩ ⟨hf.b, Nat.le_refl _⟩ hq
theorem fresh_plain {P : Program} {f : FuncId} {as : List AV} {H : List Row} {r : AV} {Q : AV → Prop} (hc : FreshCall P f as r Q) {K : AV → List Row → Prop} (hk : ∀ av H', More H H' → FB H.length H'.length H' av r → Q av → K av H') : callSem P f as H K :=
  hc H K fun av hn hf hq => hk av (H ++ hn) ⟨by simp, fun l hl => List.getElem?_append_left hl⟩ ⟨hf.b, Nat.le_refl _⟩ hq
/-- A slice that is the call's own is marked. -/
theorem mark_step {P : Program} {F : FuncId} {mt : Int → ByteArray} {fs : List Sch} (hc : MarkC P F mt fs) {lo hi : Nat} {H : List Row} {a : AV} {es : List (List AV)} {k : Int} {K : AV → List Row → Prop} (ha : FB lo hi H a (.list 0 fs.length es)) (hsh : ∀ e ∈ es, shEl fs e) (hk : 0 ≤ k) (hb : k + cntAcc (cntEl fs) es ≤ 4611686018427387904)
    (hK : ∀ H' g, (∀ l ∈ g, lo ≤ l ∧ l < hi) → But g H H' → FB lo hi H' a (.list 0 fs.length (mapAcc (mkEl mt fs) es k).1) → K (.val (.int .i64 (mapAcc (mkEl mt fs) es k).2)) H') : callSem P F [a, .val (.int .i64 k)] H K := by
  obtain ⟨⟨n, g, h1, h2, h3⟩, h4⟩ := ha
  refine hc n a es g H k K h1 h2 hsh hk hb fun H' m' e1 e2 e3 => hK H' g h3 ⟨by omega, fun l _ hg => e2 l hg⟩ ⟨⟨m', g, e3, h2, h3⟩, by omega⟩
theorem mark_agg {P : Program} {F : FuncId} {mt : Int → ByteArray} {fs : List Sch} (hc : MarkA P F mt fs) {lo hi : Nat} {H : List Row} {cs ds : List AV} {k : Int} {K : AV → List Row → Prop} (ha : FB lo hi H (.agg cs) (.agg ds)) (hsh : shEl fs ds) (hk : 0 ≤ k) (hb : k + cntTop fs ds ≤ 4611686018427387904)
    (hK : ∀ H' g, (∀ l ∈ g, lo ≤ l ∧ l < hi) → But g H H' → FB lo hi H' (.agg cs) (.agg (mkTop mt fs ds k).1) → K (.val (.int .i64 (mkTop mt fs ds k).2)) H') : callSem P F [.agg cs, .val (.int .i64 k)] H K := by
  have h4 := ha.le
  obtain ⟨n, g, h1, h2, h3⟩ := ha.tree.unagg
  refine hc n cs ds g H k K h1 h2 hsh hk hb fun H' e1 e2 ⟨m', e3⟩ => hK H' g h3 ⟨e1, fun l hl hg => e2 l hl hg⟩ ⟨⟨m' + 1, g, ⟨_, e3, rfl⟩, h2, h3⟩, by omega⟩
/-- The parts of a result. -/
theorem FB.two {lo hi : Nat} {H : List Row} {a r : AV} {v u : Value} (h : FB lo hi H (.tup [a, .val v]) (.tup [r, .val u])) : FB lo hi H a r ∧ (.val v = AV.val u) := by
  have h4 := h.le
  obtain ⟨n, fs, h1, h2, h3⟩ := h.tree.untup
  obtain ⟨d, ds, f, f', e1, rfl, q1, q2⟩ := h1
  simp only [List.cons.injEq] at e1
  obtain ⟨rfl, rfl⟩ := e1
  obtain ⟨d, ds, f2, f3, e1, rfl, q3, q4⟩ := q2
  simp only [List.cons.injEq] at e1
  obtain ⟨rfl, rfl⟩ := e1
  obtain ⟨_, rfl⟩ := q4
  obtain ⟨rfl, e⟩ := q3.of_val
  refine ⟨⟨⟨n, f, q1, (List.nodup_append.1 h2).1, fun l hl => h3 l (List.mem_append_left _ hl)⟩, h4⟩, e⟩
theorem FB.arg {lo hi : Nat} {H : List Row} {a r : AV} (h : FB lo hi H a r) : ArgOwn H a r := h.tree.arg
theorem cnt_bound {α : Type} {c : List AV → Nat} {f : α → List AV} {sz : α → Nat} {K : Nat} (h : ∀ x, c (f x) ≤ K * (1 + sz x)) : ∀ xs : List α, cntAcc c (xs.map f) ≤ K * szList sz xs
  | [] => by simp [cntAcc]
  | x :: xs => by
    have h1 := cnt_bound h xs
    have h2 := h x
    simp only [List.map_cons, cntAcc, szList, sumOf, List.length_cons] at h1 ⊢
    have : K * (xs.length + 1 + (sz x + sumOf sz xs)) = K * (1 + sz x) + K * (xs.length + sumOf sz xs) := by rw [← Nat.mul_add]; congr 1; omega
    omega
end Go.AW

namespace Go.AW
variable {mt : Int → ByteArray}
theorem cntTop_mk : ∀ (fs : List Sch) (cs : List AV) (k : Int), shEl fs cs → cntTop fs (mkTop mt fs cs k).1 = cntTop fs cs
  | [], cs, k, h => by simp [cntTop]
  | .list fs :: ss, cs, k, h => by
    unfold shEl at h
    obtain ⟨c, r, rfl, h1, h2⟩ := h
    simp only [mkTop, cntTop]
    rw [cntCell_mk _ c k h1, cntTop_mk ss r _ h2]
  | .int :: ss, cs, k, h => by
    unfold shEl at h
    obtain ⟨c, r, rfl, h1, h2⟩ := h
    simp only [mkTop, cntTop]
    exact cntTop_mk ss r _ h2
  | .str :: ss, cs, k, h => by
    unfold shEl at h
    obtain ⟨c, r, rfl, h1, h2⟩ := h
    simp only [mkTop, cntTop]
    exact cntTop_mk ss r _ h2
  | .bool :: ss, cs, k, h => by
    unfold shEl at h
    obtain ⟨c, r, rfl, h1, h2⟩ := h
    simp only [mkTop, cntTop]
    exact cntTop_mk ss r _ h2
theorem shEl_flat : ∀ (fs : List Sch) (cs : List AV), shEl fs cs → cs.all AV.flat = true
  | [], cs, h => by unfold shEl at h; subst h; rfl
  | s :: ss, cs, h => by
    unfold shEl at h
    obtain ⟨c, r, rfl, h1, h2⟩ := h
    rw [List.all_cons, shEl_flat ss r h2, Bool.and_true]
    cases s <;> (unfold shCell at h1; obtain ⟨_, h1⟩ := h1) <;> first | (subst h1; rfl) | (obtain ⟨rfl, _⟩ := h1; rfl)
theorem post_cell2 {t : Nat → AV} {h : List Row} (a s : Nat) (n : Option Nat) (K : AV → List Row → Prop) : fnPost [.cell a n, .tmp s] K .ret t h = match opEval t h (.load n (.tmp a)) with | some av => K (.tup [av, t s]) h | none => False := by
  simp only [fnPost, resAV, List.mapM_cons, List.mapM_nil]
  cases opEval t h (.load n (.tmp a)) <;> simp [retOf]
/-- The rows of a state are no longer than a slice may be. -/
theorem Models.rowLen {S : Sit} {h : List Row} {w : World} (m : Models S h w) {l : Nat} {r : Row} (hl : h[l]? = some r) : r.es.length ≤ 9223372036854775807 := by
  have h1 := (List.getElem?_eq_some_iff.1 hl).1
  have h2 : l < S.rows.length := by rw [m.len]; exact h1
  obtain ⟨k1, k2, k3, k4⟩ := m.rows l S.rows[l] r (List.getElem?_eq_getElem h2) hl
  cases hb : (S.rows[l]).blk with
  | none => rw [hb] at k4; rw [k4.1]; simp
  | some b =>
    rw [hb] at k4
    by_cases hne : r.es = []
    · rw [hne]; simp
    · obtain ⟨_, c, _, _, _, _, j5, j6⟩ := k4.2.cells (.inl hne)
      simp only [maxLen] at j6
      omega
theorem learn_len {P : Program} {f : FuncId} {args : List AV} {H : List Row} {K : AV → List Row → Prop} {l : Nat} {r : Row} (hl : H[l]? = some r) (hc : r.es.length ≤ 9223372036854775807 → callSem P f args H K) : callSem P f args H K :=
  fun S w vals hm hg hr => hc (hm.rowLen hl) S w vals hm hg hr
theorem set_eq_same {α : Type} {es : List α} {i : Nat} {x : α} (h : es[i]? = some x) : es.set i x = es := by
  obtain ⟨hi, e⟩ := List.getElem?_eq_some_iff.1 h
  subst e
  exact List.set_getElem_self hi
/-- The length of a list in a struct. -/
def lenAt : AV → Nat
  | .list _ _ es => es.length
  | _ => 0
theorem mkCell_lenAt : ∀ (s : Sch) (c : AV) (k : Int), shCell s c → lenAt (mkCell mt s c k).1 = lenAt c
  | .list fs, c, k, h => by
    unfold shCell at h
    obtain ⟨e, rfl, _⟩ := h
    simp only [mkCell, lenAt, mapAcc_len]
  | .int, c, k, h => by unfold shCell at h; obtain ⟨_, rfl⟩ := h; rfl
  | .str, c, k, h => by unfold shCell at h; obtain ⟨_, rfl⟩ := h; rfl
  | .bool, c, k, h => by unfold shCell at h; obtain ⟨_, rfl⟩ := h; rfl
theorem mkTop_lenAt : ∀ (fs : List Sch) (cs : List AV) (k : Int) (j : Nat), shEl fs cs → lenAt ((mkTop mt fs cs k).1.getD j .undef) = lenAt (cs.getD j .undef)
  | [], cs, k, j, h => by unfold shEl at h; subst h; simp [mkTop]
  | .list fs :: ss, cs, k, j, h => by
    unfold shEl at h
    obtain ⟨c, r, rfl, h1, h2⟩ := h
    have := mkCell_lenAt (mt := mt) (.list fs) c k h1
    cases j with
    | zero => simpa [mkTop] using this
    | succ j => simpa [mkTop] using mkTop_lenAt ss r _ j h2
  | .int :: ss, cs, k, j, h => by
    unfold shEl at h
    obtain ⟨c, r, rfl, h1, h2⟩ := h
    cases j with
    | zero => simp [mkTop]
    | succ j => simpa [mkTop] using mkTop_lenAt ss r _ j h2
  | .str :: ss, cs, k, j, h => by
    unfold shEl at h
    obtain ⟨c, r, rfl, h1, h2⟩ := h
    cases j with
    | zero => simp [mkTop]
    | succ j => simpa [mkTop] using mkTop_lenAt ss r _ j h2
  | .bool :: ss, cs, k, j, h => by
    unfold shEl at h
    obtain ⟨c, r, rfl, h1, h2⟩ := h
    cases j with
    | zero => simp [mkTop]
    | succ j => simpa [mkTop] using mkTop_lenAt ss r _ j h2
end Go.AW

namespace Go.AW

/-- The same cell, or nil looked at as the empty row L. -/
def Cv (L : Nat) (a b : AV) : Prop := b = a ∨ (a = .val (.slice none 0 0) ∧ b = .own L 0)
def CvL (L : Nat) : List AV → List AV → Prop
  | [], bs => bs = []
  | a :: as, bs => ∃ b r, bs = b :: r ∧ Cv L a b ∧ CvL L as r
def CvLL (L : Nat) : List (List AV) → List (List AV) → Prop
  | [], bs => bs = []
  | a :: as, bs => ∃ b r, bs = b :: r ∧ CvL L a b ∧ CvLL L as r
theorem CvL.len {L : Nat} : ∀ {as bs : List AV}, CvL L as bs → bs.length = as.length
  | [], bs, h => by unfold CvL at h; subst h; rfl
  | a :: as, bs, h => by
    unfold CvL at h
    obtain ⟨b, r, rfl, _, h2⟩ := h
    simp [h2.len]
theorem CvL.refl (L : Nat) : ∀ as : List AV, CvL L as as
  | [] => rfl
  | a :: as => ⟨a, as, rfl, .inl rfl, CvL.refl L as⟩
theorem CvLL.refl (L : Nat) : ∀ as : List (List AV), CvLL L as as
  | [] => rfl
  | a :: as => ⟨a, as, rfl, CvL.refl L a, CvLL.refl L as⟩
theorem CvLL.len {L : Nat} : ∀ {as bs : List (List AV)}, CvLL L as bs → bs.length = as.length
  | [], bs, h => by unfold CvLL at h; subst h; rfl
  | a :: as, bs, h => by
    unfold CvLL at h
    obtain ⟨b, r, rfl, _, h2⟩ := h
    simp [h2.len]
theorem CvLL.all {L sz : Nat} : ∀ {as bs : List (List AV)}, CvLL L as bs → (∀ e ∈ as, e.length = sz) → ∀ e ∈ bs, e.length = sz
  | [], bs, h, _ => by unfold CvLL at h; subst h; simp
  | a :: as, bs, h, hs => by
    unfold CvLL at h
    obtain ⟨b, r, rfl, h1, h2⟩ := h
    intro e he
    rcases List.mem_cons.1 he with q | q
    · subst q; rw [h1.len]; exact hs a (by simp)
    · exact h2.all (fun x hx => hs x (by simp [hx])) e q
section
variable {S S' : Sit} {L sz : Nat} (hle : S.le S') (hL : S'.rows[L]? = some ⟨0, none, 0, sz⟩)
include hle hL
theorem Cv.rep {a b : AV} {x : Value} (h : Cv L a b) (r : Rep S a x) : Rep S' b x := by
  rcases h with rfl | ⟨rfl, rfl⟩
  · exact Rep.up hle _ _ r
  · simp only [Rep] at r ⊢
    subst r
    exact ⟨⟨_, _, _, rfl⟩, _, hL, Nat.le_refl _, fun _ => .inl rfl⟩
theorem CvL.repPre : ∀ {as bs : List AV} {vs : List Value}, CvL L as bs → RepPre S as vs → RepPre S' bs vs
  | [], bs, vs, h, r => by unfold CvL at h; subst h; simp [RepPre]
  | a :: as, bs, vs, h, r => by
    unfold CvL at h
    obtain ⟨b, q, rfl, h1, h2⟩ := h
    simp only [RepPre] at r ⊢
    obtain ⟨v, w, e, r1, r2⟩ := r
    exact ⟨v, w, e, h1.rep hle hL r1, CvL.repPre h2 r2⟩
theorem CvLL.rep : ∀ {as bs : List (List AV)} {vs : List Value}, CvLL L as bs → RepLL S as vs → RepLL S' bs vs
  | [], bs, vs, h, r => by unfold CvLL at h; subst h; simp [RepLL]
  | a :: as, bs, vs, h, r => by
    unfold CvLL at h
    obtain ⟨b, q, rfl, h1, h2⟩ := h
    simp only [RepLL] at r ⊢
    exact ⟨h1.repPre hle hL r.1, by rw [h1.len]; exact CvLL.rep h2 r.2⟩
end
/-- Nil in some slots and cells, looked at as an empty row. -/
theorem ghost_nil {N : Nat} {t t' : Nat → AV} {h h' : List Row} (E : Tag) (hE : ∃ T, E = .ty T) (sz : Nat) (ht : ∀ k, Cv h.length (t k) (t' k)) (hlen : h'.length = h.length + 1) (hnew : h'[h.length]? = some ⟨E, sz, []⟩)
    (hrow : ∀ l r', l < h.length → h'[l]? = some r' → ∃ r, h[l]? = some r ∧ r'.E = r.E ∧ r'.sz = r.sz ∧ CvLL h.length r.es r'.es) : Ghost N t h t' h' := by
  intro S w a hm hr
  have hl := hm.len
  have hle : S.le { imm := S.imm, rows := S.rows ++ [⟨0, none, 0, sz⟩] } := ⟨fun _ _ e => e, fun l i e => ⟨i, by
    show (S.rows ++ _)[l]? = _
    rw [List.getElem?_append_left (List.getElem?_eq_some_iff.1 e).1]; exact e, Nat.le_refl _, fun _ => rfl⟩⟩
  have hL : ({ imm := S.imm, rows := S.rows ++ [⟨0, none, 0, sz⟩] } : Sit).rows[h.length]? = some ⟨0, none, 0, sz⟩ := by
    show (S.rows ++ _)[h.length]? = _
    rw [← hl, List.getElem?_append_right (Nat.le_refl _), Nat.sub_self]; rfl
  have hcase : ∀ (l : Nat) (i : Info), (S.rows ++ [⟨0, none, 0, sz⟩])[l]? = some i → (l < h.length ∧ S.rows[l]? = some i) ∨ (l = h.length ∧ i = ⟨0, none, 0, sz⟩) := by
    intro l i q
    by_cases hlt : l < h.length
    · left; rw [List.getElem?_append_left (by omega)] at q; exact ⟨hlt, q⟩
    · right
      have h2 := (List.getElem?_eq_some_iff.1 q).1
      simp only [List.length_append, List.length_cons, List.length_nil] at h2
      have e : l = h.length := by omega
      subst e
      refine ⟨rfl, ?_⟩
      rw [← hl, List.getElem?_append_right (Nat.le_refl _), Nat.sub_self] at q
      simpa using q.symm
  refine ⟨{ imm := S.imm, rows := S.rows ++ [⟨0, none, 0, sz⟩] }, ⟨hle, rfl, rfl, rfl, Nat.le_refl _, fun _ _ _ => rfl, ?_, fun b c q => .inl q⟩, ⟨hm.imm, by simp [hl, hlen], ?_, ?_⟩, ⟨hr.1, hr.2.1, fun k hk => (ht k).rep hle hL (hr.2.2 k hk)⟩⟩
  · rintro b ⟨l, i, q1, q2⟩
    rcases hcase l i q1 with ⟨_, q⟩ | ⟨_, q⟩
    · exact .inl ⟨l, i, q, q2⟩
    · subst q; simp at q2
  · intro l i r' q1 q2
    rcases hcase l i q1 with ⟨hlt, q⟩ | ⟨rfl, rfl⟩
    · obtain ⟨r, e1, e2, e3, e4⟩ := hrow l r' hlt q2
      obtain ⟨k1, k2, k3, k4⟩ := hm.rows l i r q e1
      refine ⟨by rw [e4.len]; exact k1, by rw [e3]; exact k2, by rw [e3]; exact e4.all k3, ?_⟩
      cases hb : i.blk with
      | none =>
        rw [hb] at k4
        obtain ⟨k4, k5⟩ := k4
        rw [k4] at e4
        exact ⟨e4, k5⟩
      | some b =>
        rw [hb] at k4
        refine ⟨k4.1, ?_⟩
        have k5 := k4.2
        unfold Stored at k5 ⊢
        rw [e2]
        split at k5
        · rename_i T hT
          obtain ⟨c, j1, j2, j3⟩ := k5
          exact ⟨c, j1, e4.rep hle hL j2, j3⟩
        · rename_i ents hT
          obtain ⟨j1, j2, j3⟩ := k5
          rw [j1] at e4
          exact ⟨e4, by rw [e3]; exact j2, j3⟩
        · rename_i T hT
          obtain ⟨⟨c, j1, j2, j3⟩, j4⟩ := k5
          exact ⟨⟨c, j1, e4.rep hle hL j2, j3⟩, j4⟩
    · rw [hnew] at q2
      obtain rfl := Option.some.inj q2
      exact ⟨rfl, rfl, by simp, rfl, rfl⟩
  · intro l l' i i' b q1 q1' q2 q2'
    rcases hcase l i q1 with ⟨_, q⟩ | ⟨_, rfl⟩
    · rcases hcase l' i' q1' with ⟨_, q'⟩ | ⟨_, rfl⟩
      · exact hm.one l l' i i' b q q' q2 q2'
      · simp at q2'
    · simp at q2
/-- Nothing is looked at anew. -/
theorem ghost_id {N : Nat} {t : Nat → AV} {h : List Row} : Ghost N t h t h := fun S w a hm hr => ⟨S, .refl S w, hm, hr⟩
/-- Nil in a slot. -/
theorem ghost_tmp {N : Nat} {t : Nat → AV} {h : List Row} (d : Nat) (T : TypeId) (sz : Nat) (hd : t d = .val (.slice none 0 0)) : Ghost N t h (upd t d (.own h.length 0)) (h ++ [⟨.ty T, sz, []⟩]) := by
  refine ghost_nil (.ty T) ⟨T, rfl⟩ sz (fun k => ?_) (by simp) (by rw [getA0]; rfl) (fun l r' hl hr => ⟨r', by rwa [List.getElem?_append_left hl] at hr, rfl, rfl, CvLL.refl _ _⟩)
  by_cases e : k = d
  · subst e; right; exact ⟨hd, upd_same _ _ _⟩
  · left; exact upd_ne _ _ _ _ e
/-- Nil in a cell of a box. -/
theorem ghost_cell {N : Nat} {t : Nat → AV} {h0 r : List Row} {E : Tag} {s : Nat} {pre post : List AV} (T : TypeId) (sz : Nat) :
    Ghost N t (h0 ++ ⟨E, s, [pre ++ AV.val (.slice none 0 0) :: post]⟩ :: r) t (h0 ++ ⟨E, s, [pre ++ AV.own (h0.length + 1 + r.length) 0 :: post]⟩ :: (r ++ [⟨.ty T, sz, []⟩])) := by
  have hlen : (h0 ++ ⟨E, s, [pre ++ AV.val (.slice none 0 0) :: post]⟩ :: r).length = h0.length + 1 + r.length := by simp; omega
  refine ghost_nil (.ty T) ⟨T, rfl⟩ sz (fun k => .inl rfl) (by simp; omega) ?_ (fun l r' hl hr => ?_)
  · rw [hlen, List.getElem?_append_right (by omega)]
    have e : h0.length + 1 + r.length - h0.length = r.length + 1 := by omega
    rw [e, List.getElem?_cons_succ, getA0]; rfl
  · rw [hlen] at hl ⊢
    by_cases q : l < h0.length
    · rw [List.getElem?_append_left q] at hr ⊢
      exact ⟨r', hr, rfl, rfl, CvLL.refl _ _⟩
    · rw [List.getElem?_append_right (by omega)] at hr ⊢
      by_cases q0 : l = h0.length
      · subst q0
        rw [Nat.sub_self, List.getElem?_cons_zero] at hr
        obtain rfl := Option.some.inj hr
        refine ⟨⟨E, s, [pre ++ AV.val (.slice none 0 0) :: post]⟩, by rw [Nat.sub_self, List.getElem?_cons_zero], rfl, rfl, ⟨_, [], rfl, ?_, rfl⟩⟩
        have : ∀ pre : List AV, CvL (h0.length + 1 + r.length) (pre ++ AV.val (.slice none 0 0) :: post) (pre ++ AV.own (h0.length + 1 + r.length) 0 :: post) := by
          intro pre
          induction pre with
          | nil => exact ⟨_, _, rfl, .inr ⟨rfl, rfl⟩, CvL.refl _ _⟩
          | cons a as ih => exact ⟨a, _, rfl, .inl rfl, ih⟩
        exact this pre
      · obtain ⟨m, hm⟩ : ∃ m, l - h0.length = m + 1 := ⟨l - h0.length - 1, by omega⟩
        rw [hm, List.getElem?_cons_succ, List.getElem?_append_left (by omega)] at hr
        exact ⟨r', by rw [hm, List.getElem?_cons_succ]; exact hr, rfl, rfl, CvLL.refl _ _⟩

theorem ghost_box {N : Nat} {t : Nat → AV} {h h' : List Row} (h0 r : List Row) (E : Tag) (s : Nat) (pre post : List AV) (T : TypeId) (sz idx : Nat) (e1 : h = h0 ++ ⟨E, s, [pre ++ AV.val (.slice none 0 0) :: post]⟩ :: r) (e2 : h' = h0 ++ ⟨E, s, [pre ++ AV.own idx 0 :: post]⟩ :: (r ++ [⟨.ty T, sz, []⟩])) (e3 : idx = h0.length + 1 + r.length) : Ghost N t h t h' := by
  subst e1 e2 e3; exact ghost_cell T sz

/-! Rows that grow: the row l holds what is done; the elements' own rows lie behind it. -/
structure GrowAt (l : Nat) (H : List Row) (E : Tag) (sz : Nat) (done ds : List (List AV)) : Prop where
  row : H[l]? = some ⟨E, sz, done⟩
  tree : FreshLLB (l + 1) H.length H done ds
theorem GrowAt.lt {l : Nat} {H : List Row} {E : Tag} {sz : Nat} {done ds : List (List AV)} (g : GrowAt l H E sz done ds) : l < H.length := (List.getElem?_eq_some_iff.1 g.row).1
theorem GrowAt.step {l : Nat} {H H1 H2 : List Row} {E : Tag} {sz : Nat} {done ds : List (List AV)} {cs rs : List AV} (g : GrowAt l H E sz done ds) (hf : FreshLB H.length H1.length H1 cs rs) (h1 : H.length ≤ H1.length) (hk : ∀ x, l < x → x < H.length → H1[x]? = H[x]?)
    (h2 : H1.length ≤ H2.length) (hk2 : ∀ x, l < x → x < H1.length → H2[x]? = H1[x]?) (hr : H2[l]? = some ⟨E, sz, done ++ [cs]⟩) : GrowAt l H2 E sz (done ++ [cs]) (ds ++ [rs]) := by
  refine ⟨hr, FreshLLB.snoc (mid := H.length) (g.tree.keep fun x q1 q2 => ?_) ((hf.keep fun x q1 q2 => ?_).widen (Nat.le_refl _) h2) ⟨g.lt, by omega⟩⟩
  · rw [hk2 x (by omega) (by omega), hk x (by omega) q2]
  · exact hk2 x (by have := g.lt; omega) q2
theorem GrowAt.more {l : Nat} {H H' : List Row} {E : Tag} {sz : Nat} {done ds : List (List AV)} (g : GrowAt l H E sz done ds) (h1 : H.length ≤ H'.length) (hk : ∀ x, l ≤ x → x < H.length → H'[x]? = H[x]?) : GrowAt l H' E sz done ds :=
  ⟨by rw [hk l (Nat.le_refl _) g.lt]; exact g.row, (g.tree.keep fun x q1 q2 => hk x (by omega) q2).widen (Nat.le_refl _) h1⟩
theorem GrowAt.done {l n : Nat} {H : List Row} {E : Tag} {sz : Nat} {done ds : List (List AV)} (g : GrowAt l H E sz done ds) (hn : done.length = n) : FreshB l H.length H (.own l n) (.list 0 sz ds) :=
  FreshB.mkown g.tree g.row hn (Nat.le_refl _) (Nat.lt_succ_self _) g.lt
theorem GrowAt.agg {l n lo : Nat} {H : List Row} {E : Tag} {sz : Nat} {done ds : List (List AV)} (g : GrowAt l H E sz done ds) (hn : done.length = n) (hlo : lo ≤ l) (v u : Value) : FreshB lo H.length H (.agg [.val v, .val u, .own l n]) (.agg [.val v, .val u, .list 0 sz ds]) :=
  (FreshB.agg (FreshLB.val _ (FreshLB.val _ (FreshLB.cons (g.done hn) (FreshLB.nil _ _ _) ⟨Nat.le_of_lt g.lt, Nat.le_refl _⟩)))).widen hlo (Nat.le_refl _)
theorem GrowAt.zero {l : Nat} {H : List Row} {E : Tag} {sz : Nat} (h : H[l]? = some ⟨E, sz, []⟩) : GrowAt l H E sz [] [] := ⟨h, .nil _ _ _⟩
/-- Behind the same number of rows lie the same rows. -/
theorem past {p q m t : List Row} {x : Nat} (hp : p.length = q.length) (h1 : q.length ≤ x) (h2 : x < (q ++ m).length) : (p ++ (m ++ t))[x]? = (q ++ m)[x]? := by
  rw [List.length_append] at h2
  rw [List.getElem?_append_right (by omega), List.getElem?_append_right h1, hp, List.getElem?_append_left (by omega)]
theorem FreshLB.head {lo hi : Nat} {H : List Row} {a r : AV} {as rs : List AV} (h : FreshLB lo hi H (a :: as) (r :: rs)) : FreshB lo hi H a r := by
  obtain ⟨n, fs, ⟨d, ds, f, f', e1, rfl, h1, h2⟩, p2, p3⟩ := h
  cases e1
  exact ⟨n, f, h1, (List.nodup_append.1 p2).1, fun l hl => p3 l (List.mem_append_left _ hl)⟩
theorem FreshLB.rest {lo hi : Nat} {H : List Row} {a r : AV} {as rs : List AV} (h : FreshLB lo hi H (a :: as) (r :: rs)) : FreshLB lo hi H as rs := by
  obtain ⟨n, fs, ⟨d, ds, f, f', e1, rfl, h1, h2⟩, p2, p3⟩ := h
  cases e1
  exact ⟨n, f', h2, (List.nodup_append.1 p2).2.1, fun l hl => p3 l (List.mem_append_right _ hl)⟩
theorem sumOf_zero {α : Type} : ∀ xs : List α, sumOf (fun _ => 0) xs = 0
  | [] => rfl
  | x :: xs => by simp only [sumOf]; rw [sumOf_zero xs]
theorem szList_zero {α : Type} (xs : List α) : szList (fun _ => 0) xs = xs.length := by simp only [szList]; rw [sumOf_zero]; rfl
/-- A call that reads trees and gives plain values. -/
theorem PureCall.ownR {P : Program} {f : FuncId} {as rs : List AV} {H : List Row} {r : AV} (hs : r.solid = true) (hc : ∀ h, PureCall P f rs h r) (ha : ArgsOwn H as rs) : PureCall P f as H r := by
  intro K hk S w vals hm hgl hr
  have hm0 : Models (S.shut w) [] w := ⟨hm.shut, rfl, by simp [Sit.shut], by simp [Sit.shut]⟩
  refine (hc [] (fun q _ => q = r) rfl (S.shut w) w vals hm0 (hgl.shut hm) (ha.rep hm hr)).mono ?_
  rintro e w' ⟨v', av, S1, h1, rfl, st, hm1, rv, rfl⟩
  have b : Go.RowKit.Below w.heap.size w w' := ⟨st.os, st.tape, st.output, st.size, fun k hk => st.block k hk (by rintro ⟨l, i, q, _⟩; simp [Sit.shut] at q)⟩
  exact ⟨v', _, S, H, rfl, Step.below b, hm.below b, solid_any hs rv, hk⟩
/-! Rows that are known by facts. -/
section
variable {H0 H H' : List Row} {i : Nat} {r : Row}
theorem More.refl (H : List Row) : More H H := ⟨Nat.le_refl _, fun _ _ => rfl⟩
theorem More.set (m : More H0 H) (h : H0.length ≤ i) : More H0 (H.set i r) := ⟨by rw [List.length_set]; exact m.len, fun l hl => by rw [List.getElem?_set_ne (by omega)]; exact m.kept l hl⟩
theorem More.add (m : More H0 H) (l : List Row) : More H0 (H ++ l) := ⟨by rw [List.length_append]; have := m.len; omega, fun x hx => by rw [List.getElem?_append_left (by have := m.len; omega)]; exact m.kept x hx⟩
theorem More.app (H l : List Row) : More H (H ++ l) := (More.refl H).add l
theorem More.tail (m : More H0 H) : ∃ hn, H = H0 ++ hn := by
  refine ⟨H.drop H0.length, ?_⟩
  have e : H.take H0.length = H0 := by
    apply List.ext_getElem?
    intro l
    rw [List.getElem?_take]
    by_cases q : l < H0.length
    · rw [if_pos q]; exact m.kept l q
    · rw [if_neg q, List.getElem?_eq_none (by omega)]
  rw [← List.take_append_drop H0.length H, e]
  simp
theorem set_at (h : H[i]? = some r) (r' : Row) : (H.set i r')[i]? = some r' := by
  rw [List.getElem?_set_self (List.getElem?_eq_some_iff.1 h).1]
end
theorem set_old {H l : List Row} {i j : Nat} {r : Row} (h : H[j]? = some r) (r' : Row) (hij : i ≠ j) : (H.set i r' ++ l)[j]? = some r := get_old (by rw [List.getElem?_set_ne hij]; exact h)
theorem set_new {H l : List Row} {i : Nat} {r : Row} (h : H[i]? = some r) (r' : Row) : (H.set i r' ++ l)[i]? = some r' := get_old (set_at h r')
theorem set_app1 {H l : List Row} {i j : Nat} {r r' : Row} (h : i < H.length) : (H.set j r ++ l).set i r' = (H.set j r).set i r' ++ l := List.set_append_left _ _ (by simpa using h)
theorem set_app2 {H l : List Row} {i j k : Nat} {r r' r2 : Row} (h : i < H.length) : ((H.set k r2).set j r ++ l).set i r' = ((H.set k r2).set j r).set i r' ++ l := List.set_append_left _ _ (by simpa using h)
theorem Ex_ghost_mem {P : Program} {N : Nat} {Q : Post} {k : List Fr} {t : Nat → AV} {h : List Row} {b : LC} (h' : List Row) (hg : ∀ t, Ghost N t h t h') (hb : Ex P N Q b k t h') : Ex P N Q (.ghost b) k t h := Ex_ghost t h' (hg t) hb
theorem FreshB.pair {lo hi : Nat} {H : List Row} {a r : AV} (h : FreshB lo hi H a r) (hl : lo ≤ hi) (v : Value) : FreshB lo hi H (.tup [a, .val v]) (.tup [r, .val v]) :=
  FreshB.tup (FreshLB.cons h (FreshLB.val v (FreshLB.nil hi hi H)) ⟨hl, Nat.le_refl _⟩)
/-- A tree of new rows; the older rows stand. -/
structure Res (h h' : List Row) (av r : AV) : Prop where
  more : More h h'
  tree : FreshB h.length h'.length h' av r
theorem fresh_fn2 {P : Program} {f : FuncId} {fn : Func} {lf : LF} {args : List AV} {r : AV} {Q : AV → Prop} (hmx : P.follows .mixedOrders = true) (hf : P.funcs[f]? = some fn) (hl : LowF P fn lf) (hn : args.length = lf.np)
    (hw : ∀ h : List Row, Ex P lf.N (fnPost lf.res fun av h' => Res h h' av r ∧ Q av) lf.body [] (initT args) h) : FreshCall P f args r Q := by
  intro h K hk
  refine (call_of_fnWp hmx hf hl (fnWp_of hn (hw h))).mono ?_
  rintro a h' ⟨⟨m, h1⟩, h2⟩
  obtain ⟨hn, rfl⟩ := m.tail
  exact hk a hn h1.fresh h2
end Go.AW

namespace Go.AW

mutual
def AV.shift (k : Nat) : AV → AV
  | .val v => .val v
  | .list tk sz es => .list tk sz es
  | .iptr cs => .iptr cs
  | .ptr l n i off => .ptr (l + k) n i off
  | .own l n => .own (l + k) n
  | .sub l n lo hi => .sub (l + k) n lo hi
  | .mp l => .mp (l + k)
  | .agg cs => .agg (shiftL k cs)
  | .tup cs => .tup (shiftL k cs)
  | .fn f a b => .fn f (shiftL k a) (shiftL k b)
  | .undef => .undef
def shiftL (k : Nat) : List AV → List AV
  | [] => []
  | c :: cs => c.shift k :: shiftL k cs
end
theorem shiftL_len (k : Nat) : ∀ cs : List AV, (shiftL k cs).length = cs.length
  | [] => rfl
  | c :: cs => by simp only [shiftL, List.length_cons]; rw [shiftL_len k cs]
def shiftLL (k : Nat) (es : List (List AV)) : List (List AV) := es.map (shiftL k)
def shiftRow (k : Nat) (r : Row) : Row := ⟨r.E, r.sz, shiftLL k r.es⟩
section
variable {S S2 : Sit} {R : List Info} {k : Nat} (himm : S2.imm = S.imm) (hrows : S2.rows = R ++ S.rows) (hk : R.length = k)
include himm hrows hk
theorem shift_row {l : Nat} : S2.rows[l + k]? = S.rows[l]? := by
  rw [hrows, List.getElem?_append_right (by omega)]; congr 1; omega
theorem shift_still : S2.still = S.still := by simp [Sit.still, himm]
mutual
theorem Rep.shift : ∀ (a : AV) (x : Value), Rep S a x → Rep S2 (a.shift k) x
  | .val v, x, r => by simpa [Rep, AV.shift] using r
  | .list tk sz es, x, r => by
    simp only [Rep, AV.shift] at r ⊢
    rw [himm, shift_still himm hrows hk]; exact r
  | .iptr cs, x, r => by
    simp only [Rep, AV.shift] at r ⊢
    rw [himm, shift_still himm hrows hk]; exact r
  | .ptr l n i off, x, r => by
    simp only [Rep, AV.shift] at r ⊢
    rw [shift_row himm hrows hk]; exact r
  | .own l n, x, r => by
    simp only [Rep, AV.shift] at r ⊢
    rw [shift_row himm hrows hk]; exact r
  | .sub l n lo hi, x, r => by
    simp only [Rep, AV.shift] at r ⊢
    rw [shift_row himm hrows hk]; exact r
  | .mp l, x, r => by
    simp only [Rep, AV.shift] at r ⊢
    rw [shift_row himm hrows hk]; exact r
  | .agg cs, x, r => by
    simp only [Rep, AV.shift] at r ⊢
    obtain ⟨vs, e, r⟩ := r
    exact ⟨vs, e, RepL.shift cs _ r⟩
  | .tup cs, x, r => by
    simp only [Rep, AV.shift] at r ⊢
    obtain ⟨vs, e, r⟩ := r
    exact ⟨vs, e, RepL.shift cs _ r⟩
  | .fn f a b, x, r => by
    simp only [Rep, AV.shift] at r ⊢
    obtain ⟨vs, us, e, r1, r2⟩ := r
    exact ⟨vs, us, e, RepL.shift a _ r1, RepL.shift b _ r2⟩
  | .undef, x, r => by simp [Rep, AV.shift]
theorem RepL.shift : ∀ (a : List AV) (x : List Value), RepL S a x → RepL S2 (shiftL k a) x
  | [], x, r => by simpa [RepL, shiftL] using r
  | c :: cs, x, r => by
    simp only [RepL, shiftL] at r ⊢
    obtain ⟨v, w, e, r1, r2⟩ := r
    exact ⟨v, w, e, Rep.shift c v r1, RepL.shift cs w r2⟩
end
theorem RepPre.shift : ∀ (a : List AV) (x : List Value), RepPre S a x → RepPre S2 (shiftL k a) x
  | [], x, r => by simp [RepPre, shiftL]
  | c :: cs, x, r => by
    simp only [RepPre, shiftL] at r ⊢
    obtain ⟨v, w, e, r1, r2⟩ := r
    exact ⟨v, w, e, Rep.shift himm hrows hk c v r1, RepPre.shift cs w r2⟩
theorem RepLL.shift : ∀ (es : List (List AV)) (x : List Value), RepLL S es x → RepLL S2 (shiftLL k es) x
  | [], x, r => by simp [RepLL, shiftLL]
  | c :: cs, x, r => by
    simp only [shiftLL, List.map_cons, RepLL] at r ⊢
    exact ⟨RepPre.shift himm hrows hk c _ r.1, by rw [shiftL_len]; exact RepLL.shift cs _ r.2⟩
end
section
variable {H h : List Row} {k : Nat} (hk : h.length = k)
include hk
theorem shift_get {l : Nat} : (h ++ H.map (shiftRow k))[l + k]? = (H[l]?).map (shiftRow k) := by
  rw [List.getElem?_append_right (by omega), List.getElem?_map]; congr 2; omega
theorem OwnL.shift {R R' : AV → AV → List Nat → Prop} (hR : ∀ a r f, R a r f → R' (a.shift k) r (f.map (· + k))) : ∀ {as rs : List AV} {fs : List Nat}, OwnL R as rs fs → OwnL R' (shiftL k as) rs (fs.map (· + k))
  | [], rs, fs, ho => by
    obtain ⟨rfl, rfl⟩ := ho
    exact ⟨rfl, rfl⟩
  | a :: as, rs, fs, ho => by
    obtain ⟨d, ds, f, f', rfl, rfl, h1, h2⟩ := ho
    exact ⟨d, ds, _, _, rfl, by rw [List.map_append], hR _ _ _ h1, OwnL.shift hR h2⟩
theorem OwnLL.shift {R R' : AV → AV → List Nat → Prop} (hR : ∀ a r f, R a r f → R' (a.shift k) r (f.map (· + k))) : ∀ {as rs : List (List AV)} {fs : List Nat}, OwnLL R as rs fs → OwnLL R' (shiftLL k as) rs (fs.map (· + k))
  | [], rs, fs, ho => by
    obtain ⟨rfl, rfl⟩ := ho
    exact ⟨rfl, rfl⟩
  | a :: as, rs, fs, ho => by
    obtain ⟨d, ds, f, f', rfl, rfl, h1, h2⟩ := ho
    exact ⟨d, ds, _, _, rfl, by rw [List.map_append], OwnL.shift hk hR h1, OwnLL.shift hR h2⟩
theorem Own.shift : ∀ {n : Nat} {a r : AV} {fs : List Nat}, Own H n a r fs → Own (h ++ H.map (shiftRow k)) n (a.shift k) r (fs.map (· + k))
  | 0, a, r, fs, ho => ho.elim
  | n + 1, .val v, r, fs, ho => by
    obtain ⟨rfl, h2⟩ := ho
    exact ⟨rfl, h2⟩
  | n + 1, .own l m, r, fs, ho => by
    obtain ⟨row, es, f, h1, h2, h3, rfl, rfl⟩ := ho
    refine ⟨shiftRow k row, es, _, by rw [shift_get hk, h1]; rfl, by simpa [shiftRow, shiftLL] using h2, OwnLL.shift hk (fun a r f ho => Own.shift ho) h3, rfl, by simp⟩
  | n + 1, .sub l m lo hi, r, fs, ho => by
    obtain ⟨row, es, f, h1, h2, h3, rfl, rfl⟩ := ho
    refine ⟨shiftRow k row, es, _, by rw [shift_get hk, h1]; rfl, by simpa [shiftRow, shiftLL] using h2, OwnLL.shift hk (fun a r f ho => Own.shift ho) h3, rfl, by simp⟩
  | n + 1, .agg cs, r, fs, ho => by
    obtain ⟨ds, h1, rfl⟩ := ho
    exact ⟨ds, OwnL.shift hk (fun a r f ho => Own.shift ho) h1, rfl⟩
  | n + 1, .tup cs, r, fs, ho => by
    obtain ⟨ds, h1, rfl⟩ := ho
    exact ⟨ds, OwnL.shift hk (fun a r f ho => Own.shift ho) h1, rfl⟩
  | n + 1, .list _ _ _, r, fs, ho => ho.elim
  | n + 1, .iptr _, r, fs, ho => ho.elim
  | n + 1, .ptr _ _ _ _, r, fs, ho => ho.elim
  | n + 1, .mp _, r, fs, ho => ho.elim
  | n + 1, .fn _ _ _, r, fs, ho => ho.elim
  | n + 1, .undef, r, fs, ho => ho.elim
theorem FreshB.shift {lo hi : Nat} {a r : AV} (hf : FreshB lo hi H a r) : FreshB (lo + k) (hi + k) (h ++ H.map (shiftRow k)) (a.shift k) r := by
  obtain ⟨n, fs, h1, h2, h3⟩ := hf
  refine ⟨n, _, Own.shift hk h1, List.Pairwise.map _ (fun a b hab q => hab (by omega)) h2, fun l hl => ?_⟩
  obtain ⟨m, hm, rfl⟩ := List.mem_map.1 hl
  have := h3 m hm
  omega
end
/-- Run over no rows: over any rows. -/
theorem fresh_of_none {P : Program} {f : FuncId} {args : List AV} {r : AV} {Q : AV → Prop} (hp : args.all AV.plain = true) (hw : callSem P f args [] fun av h' => FreshB 0 h'.length h' av r ∧ Q av) : FreshCall P f args r fun a => ∃ k b, Q b ∧ a = b.shift k := by
  intro h K hk S w vals hm hgl hr
  have hm0 : Models S.still [] w := ⟨hm.imm, rfl, by simp [Sit.still], by simp [Sit.still]⟩
  refine (hw S.still w vals hm0 hgl (plainL_still hp hr)).mono ?_
  rintro e w' ⟨v, av, S1, h1, rfl, st, hm1, rv, hf, hq⟩
  have hlen := hm.len
  have hnone : ∀ b, ¬ S.still.owns b := by
    rintro b ⟨l, i, q, _⟩
    simp [Sit.still] at q
  have hblk : ∀ b, b < w.heap.size → w'.heap[b]? = w.heap[b]? := fun b hb => st.block b hb (hnone b)
  have hown1 : ∀ b, S1.owns b → w.heap.size ≤ b := fun b hb => by
    rcases st.ownNew b hb with q | q
    · exact absurd q (hnone b)
    · exact q
  have himm1 : ∀ b c, S1.imm b = some c → S.imm b = some c ∨ w.heap.size ≤ b := fun b c hb => by
    rcases st.immNew b c hb with q | q | q
    · exact .inl q
    · exact absurd q (hnone b)
    · exact .inr q
  let S2 : Sit := { imm := S1.imm, rows := S.rows ++ S1.rows }
  have hle : S.le S2 := ⟨fun b c e => st.le.imm b c e, fun l i e => ⟨i, by
    show (S.rows ++ _)[l]? = _
    rw [List.getElem?_append_left (List.getElem?_eq_some_iff.1 e).1]; exact e, Nat.le_refl _, fun _ => rfl⟩⟩
  have hcase : ∀ (l : Nat) (i : Info), S2.rows[l]? = some i → (l < h.length ∧ S.rows[l]? = some i) ∨ ∃ m, l = m + h.length ∧ S1.rows[m]? = some i := by
    intro l i q
    have q' : (S.rows ++ S1.rows)[l]? = some i := q
    by_cases hlt : l < h.length
    · left; rw [List.getElem?_append_left (by omega)] at q'; exact ⟨hlt, q'⟩
    · right
      rw [List.getElem?_append_right (by omega)] at q'
      exact ⟨l - S.rows.length, by omega, q'⟩
  have hown2 : ∀ b, S2.owns b → S.owns b ∨ w.heap.size ≤ b := by
    rintro b ⟨l, i, q1, q2⟩
    rcases hcase l i q1 with ⟨_, q⟩ | ⟨m, _, q⟩
    · exact .inl ⟨l, i, q, q2⟩
    · exact .inr (hown1 b ⟨m, i, q, q2⟩)
  have hm2 : Models S2 (h ++ h1.map (shiftRow h.length)) w' := by
    refine ⟨hm1.imm, by simp [S2, hlen, hm1.len], fun l i row q1 q2 => ?_, fun l l' i i' b q1 q1' q2 q2' => ?_⟩
    · rcases hcase l i q1 with ⟨hlt, q⟩ | ⟨m, rfl, q⟩
      · rw [List.getElem?_append_left hlt] at q2
        obtain ⟨k1, k2, k3, k4⟩ := hm.rows l i row q q2
        refine ⟨k1, k2, k3, ?_⟩
        cases hb : i.blk with
        | none => rw [hb] at k4; exact k4
        | some b =>
          rw [hb] at k4
          have hlt2 := hm.ownLt ⟨l, i, q, hb⟩
          refine ⟨?_, k4.2.le hle (hblk b hlt2)⟩
          cases e : S2.imm b with
          | none => rfl
          | some d =>
            rcases himm1 b d e with e' | e'
            · rw [k4.1] at e'; cases e'
            · omega
      · rw [shift_get rfl] at q2
        cases e : h1[m]? with
        | none => rw [e] at q2; simp at q2
        | some row1 =>
          rw [e] at q2
          simp only [Option.map_some, Option.some.injEq] at q2
          subst q2
          obtain ⟨k1, k2, k3, k4⟩ := hm1.rows m i row1 q e
          refine ⟨by simpa [shiftRow, shiftLL] using k1, k2, ?_, ?_⟩
          · intro x hx
            obtain ⟨y, hy, rfl⟩ := List.mem_map.1 hx
            rw [shiftL_len]; exact k3 y hy
          cases hb : i.blk with
          | none =>
            rw [hb] at k4
            exact ⟨by simp [shiftRow, shiftLL, k4.1], k4.2⟩
          | some b =>
            rw [hb] at k4
            refine ⟨k4.1, ?_⟩
            have k5 := k4.2
            unfold Stored at k5 ⊢
            show match row1.E with | _ => _
            split at k5
            · rename_i T hT
              obtain ⟨c, j1, j2, j3⟩ := k5
              have hT' : (shiftRow h.length row1).E = .ty T := hT
              simp only [hT']
              exact ⟨c, j1, RepLL.shift (S := S1) (S2 := S2) (R := S.rows) rfl rfl hlen _ _ j2, j3⟩
            · rename_i ents hT
              obtain ⟨j1, j2, j3⟩ := k5
              have hT' : (shiftRow h.length row1).E = .map ents := hT
              simp only [hT']
              exact ⟨by simp [shiftRow, shiftLL, j1], j2, j3⟩
            · rename_i T hT
              obtain ⟨⟨c, j1, j2, j3⟩, j4⟩ := k5
              have hT' : (shiftRow h.length row1).E = .full T := hT
              simp only [hT']
              exact ⟨⟨c, j1, RepLL.shift (S := S1) (S2 := S2) (R := S.rows) rfl rfl hlen _ _ j2, j3⟩, j4⟩
    · rcases hcase l i q1 with ⟨_, q⟩ | ⟨m, rfl, q⟩ <;> rcases hcase l' i' q1' with ⟨_, q'⟩ | ⟨m', rfl, q'⟩
      · exact hm.one l l' i i' b q q' q2 q2'
      · have e1 := hm.ownLt ⟨l, i, q, q2⟩
        have e2 := hown1 b ⟨m', i', q', q2'⟩
        omega
      · have e1 := hm.ownLt ⟨l', i', q', q2'⟩
        have e2 := hown1 b ⟨m, i, q, q2⟩
        omega
      · rw [hm1.one m m' i i' b q q' q2 q2']
  refine ⟨v, av.shift h.length, S2, h ++ h1.map (shiftRow h.length), rfl, ⟨hle, st.os, st.tape, st.output, st.size, fun b hb _ => hblk b hb, hown2, fun b c q => ?_⟩, hm2, Rep.shift (S := S1) (S2 := S2) (R := S.rows) rfl rfl hlen av v rv, hk _ _ ?_ ⟨_, av, hq, rfl⟩⟩
  · rcases himm1 b c q with q | q
    · exact .inl q
    · exact .inr (.inr q)
  · obtain ⟨n, fs, g1, g2, g3⟩ := FreshB.shift (h := h) rfl hf
    exact ⟨n, fs, g1, g2, fun l hl => by have := g3 l hl; omega⟩
theorem fresh_fn0 {P : Program} {f : FuncId} {fn : Func} {lf : LF} {args : List AV} {r : AV} {Q : AV → Prop} (hmx : P.follows .mixedOrders = true) (hf : P.funcs[f]? = some fn) (hl : LowF P fn lf) (hn : args.length = lf.np) (hp : args.all AV.plain = true)
    (hw : Ex P lf.N (fnPost lf.res fun av h' => Res [] h' av r ∧ Q av) lf.body [] (initT args) []) : FreshCall P f args r fun a => ∃ k b, Q b ∧ a = b.shift k := by
  refine fresh_of_none hp ((call_of_fnWp hmx hf hl (fnWp_of hn hw)).mono ?_)
  rintro a h' ⟨⟨m, h1⟩, h2⟩
  exact ⟨h1, h2⟩
theorem resolve_tup2 {h : List Row} (a b : List AV) (e : b = a) (hf : a.all AV.flat = true := by rfl) : ∃ n, resolve h n (.tup a) = some (.tup b) := by subst e; exact resolve_tup h _ hf
theorem none_res {lo hi : Nat} {H : List Row} {a r : AV} (h : FreshB lo hi H a r) (hh : hi ≤ H.length) : Res [] H a r := ⟨⟨Nat.zero_le _, fun l hl => absurd hl (Nat.not_lt_zero l)⟩, h.widen (Nat.zero_le _) hh⟩
theorem none_ints {l : Nat} {H : List Row} {E : Tag} {zs : List Int} (hl : H[l]? = some ⟨E, 1, iCells zs⟩) : Res [] H (.own l zs.length) (.list 0 1 (iCells zs)) :=
  none_res (Fresh.ofInts hl (Nat.le_refl _)).b (Nat.le_refl _)
end Go.AW

namespace Go.AW
section
variable {H l t : List Row} {i j : Nat} {r : Row}
theorem look_ne (h : i ≠ j) : (H.set i r)[j]? = H[j]? := List.getElem?_set_ne h
theorem look_hit (h : i < H.length) : (H.set i r)[i]? = some r := by rw [List.getElem?_set_self h]
theorem look_old (h : i < H.length) : (H ++ l)[i]? = H[i]? := List.getElem?_append_left h
theorem look_new (h : i = H.length) : (H ++ r :: t)[i]? = some r := by subst h; rw [List.getElem?_append_right (Nat.le_refl _), Nat.sub_self]; rfl
theorem look_new1 {s : Row} (h : i = H.length + 1) : (H ++ r :: s :: t)[i]? = some s := by subst h; rw [List.getElem?_append_right (by omega)]; simp
theorem look_new2 {s u : Row} (h : i = H.length + 2) : (H ++ r :: s :: u :: t)[i]? = some u := by subst h; rw [List.getElem?_append_right (by omega)]; simp
theorem look_new3 {s u v : Row} (h : i = H.length + 3) : (H ++ r :: s :: u :: v :: t)[i]? = some v := by subst h; rw [List.getElem?_append_right (by omega)]; simp
end
theorem More.setnew {H0 H : List Row} {i : Nat} {r : Row} (m : More H0 H) (h : H0.length ≤ i) : More H0 (H.set i r) := m.set h
end Go.AW

namespace Go.AW
open Go.RowKit (Below)

/-- A new row that lies somewhere above; what was below stands. -/
theorem Models.newAt {S : Sit} {h : List Row} {w w' : World} (m : Models S h w) {E : Tag} {sz cap g : Nat} {es : List (List AV)} (hlen : ∀ e ∈ es, e.length = sz) (hg : w.heap.size ≤ g)
    (hst : Stored { imm := S.imm, rows := S.rows ++ [⟨es.length, some g, cap, sz⟩] } w' g ⟨es.length, some g, cap, sz⟩ ⟨E, sz, es⟩) (hb : Below w.heap.size w w') :
    Models { imm := S.imm, rows := S.rows ++ [⟨es.length, some g, cap, sz⟩] } (h ++ [⟨E, sz, es⟩]) w' ∧
    Step S w { imm := S.imm, rows := S.rows ++ [⟨es.length, some g, cap, sz⟩] } w' := by
  have hle : S.le { imm := S.imm, rows := S.rows ++ [⟨es.length, some g, cap, sz⟩] } := S.le_push _
  have hold : ∀ b, b < w.heap.size → w'.heap[b]? = w.heap[b]? := hb.block
  have himm : S.imm g = none := by
    cases q : S.imm g with
    | none => rfl
    | some d => have := m.immLt q; omega
  have hrow : ∀ (l : Nat) (i : Info), (S.rows ++ [⟨es.length, some g, cap, sz⟩])[l]? = some i → S.rows[l]? = some i ∨ (l = S.rows.length ∧ i = ⟨es.length, some g, cap, sz⟩) := by
    intro l i q
    by_cases hl : l < S.rows.length
    · rw [List.getElem?_append_left hl] at q; exact .inl q
    · rw [List.getElem?_append_right (by omega)] at q
      have : l - S.rows.length = 0 := by
        by_cases z : l - S.rows.length = 0
        · exact z
        · obtain ⟨k, hk⟩ := Nat.exists_eq_succ_of_ne_zero z
          rw [hk] at q; simp at q
      rw [this] at q
      simp at q
      exact .inr ⟨by omega, q.symm⟩
  have hblk : ∀ (l : Nat) (i : Info), S.rows[l]? = some i → i.blk ≠ some g := by
    intro l i q e
    have := m.ownLt ⟨l, i, q, e⟩
    omega
  refine ⟨⟨fun b d q => ?_, by simp [m.len], fun l i r h1 h2 => ?_, fun l l' i i' b h1 h2 h3 h4 => ?_⟩, ⟨hle, hb.os, hb.tape, hb.output, hb.size, fun b q _ => hold b q, fun b q => ?_, fun b d q => .inl q⟩⟩
  · rw [hold b (m.immLt q)]; exact m.imm b d q
  · rcases hrow l i h1 with q | ⟨q1, q2⟩
    · have hl : l < h.length := by
        rw [← m.len]; rcases List.getElem?_eq_some_iff.1 q with ⟨q, _⟩; exact q
      rw [List.getElem?_append_left hl] at h2
      obtain ⟨k1, k2, k3, k4⟩ := m.rows l i r q h2
      refine ⟨k1, k2, k3, ?_⟩
      cases hb' : i.blk with
      | none => rw [hb'] at k4; exact k4
      | some b =>
        rw [hb'] at k4
        exact ⟨k4.1, k4.2.le hle (hold b (m.ownLt ⟨l, i, q, hb'⟩))⟩
    · subst q1 q2
      rw [m.len, List.getElem?_append_right (Nat.le_refl _)] at h2
      simp at h2
      subst h2
      exact ⟨rfl, rfl, hlen, himm, hst⟩
  · rcases hrow l i h1 with q | ⟨q1, q2⟩ <;> rcases hrow l' i' h2 with q' | ⟨q1', q2'⟩
    · exact m.one l l' i i' b q q' h3 h4
    · subst q2'; simp at h4; subst h4; exact absurd h3 (hblk l i q)
    · subst q2; simp at h3; subst h3; exact absurd h4 (hblk l' i' q')
    · omega
  · obtain ⟨l, i, q1, q2⟩ := q
    rcases hrow l i q1 with q | ⟨_, q⟩
    · exact .inl ⟨l, i, q, q2⟩
    · subst q; simp at q2; subst q2; exact .inr hg

abbrev strC (s : ByteArray) : List AV := [.val (.string s)]
theorem strs_vals (S : Sit) : ∀ (xs : List ByteArray) (vs : List Value), vs.take xs.length = xs.map Value.string → RepLL S (xs.map strC) vs
  | [], vs, _ => by simp [RepLL]
  | x :: xs, vs, h => by
    cases vs with
    | nil => simp at h
    | cons v vs =>
      simp only [List.length_cons, List.take_succ_cons, List.map_cons, List.cons.injEq] at h
      simp only [List.map_cons, RepLL, RepPre, strC, List.length_singleton, List.drop_succ_cons, List.drop_zero]
      exact ⟨⟨v, vs, rfl, by simp [Rep, h.1], trivial⟩, strs_vals S xs vs h.2⟩
theorem strs_back (S : Sit) : ∀ (xs : List ByteArray) (vs : List Value) (j : Nat), RepLL S (xs.map strC) vs → j < xs.length → vs[j]? = some (.string (xs.getD j ByteArray.empty))
  | [], vs, j, _, h => by simp at h
  | x :: xs, vs, j, r, h => by
    simp only [List.map_cons, RepLL, RepPre, strC] at r
    obtain ⟨⟨v, r', rfl, r1, _⟩, r2⟩ := r
    simp only [List.length_singleton, List.drop_succ_cons, List.drop_zero] at r2
    cases j with
    | zero => simp [Rep] at r1; simp [r1]
    | succ j => simpa using strs_back S xs r' j r2 (by simpa using h)
theorem own_strs {h0 : List Row} {E : Tag} (xs : List ByteArray) : Fresh h0.length (h0 ++ [⟨E, 1, xs.map strC⟩]) (.own h0.length xs.length) (.list 0 1 (xs.map strC)) :=
  (FreshB.mkown (E := E) (lo := h0.length + 1) (hi := h0.length + 1) (FreshLLB.ofVals _ _ _ _ (by
    intro e he c hc
    obtain ⟨x, _, q⟩ := List.mem_map.1 he; subst q
    simp only [strC, List.mem_singleton] at hc
    exact ⟨_, hc⟩)) (by simp) (by simp) (Nat.le_refl _) (Nat.lt_succ_self _) (Nat.le_refl _)).fresh
/-- slices.Clone of a list of texts, as the shelf states it, taken over. -/
theorem clone_fresh {P : Program} {f : FuncId} {T : TypeId}
    (hcl : ∀ (b off n c : Nat) (zs : List ByteArray) (w : World), n ≤ zs.length → n * 16 ≤ 140737488355328 → (∀ j, j < zs.length → w.cell? ⟨b, off + j, none⟩ = some (.string (zs.getD j ByteArray.empty))) →
      Calls P f #[.slice (some ⟨b, off, none⟩) n c] w fun e w' => ∃ v', e = .returned v' ∧ w'.ownsRow w.heap.size T 1 v' n ((zs.take n).map Value.string) ∧ v' ≠ .slice none 0 0 ∧ Below w.heap.size w w')
    (hnil : ∀ (n c : Nat) (w : World), Calls P f #[.slice none n c] w fun e w' => e = .returned (.slice none 0 0) ∧ w' = w)
    (hz : ∀ (a : Addr) (c : Nat) (w : World), Calls P f #[.slice (some a) 0 c] w fun e w' => ∃ v', e = .returned v' ∧ w'.ownsRow w.heap.size T 1 v' 0 [] ∧ Below w.heap.size w w')
    (xs : List ByteArray) (hx : xs.length ≤ 1048576) : FreshCall P f [.list 0 1 (xs.map strC)] (.list 0 1 (xs.map strC)) (fun a => ∃ l, a = .own l xs.length) := by
  intro h K hk S w vals hm hgl hr
  simp only [RepL] at hr
  obtain ⟨v, r, e, hv, rfl⟩ := hr
  have e' : vals = #[v] := by cases vals; simp at e; rw [e]
  subst e'
  have fin : ∀ (w' : World) (v' : Value), w'.ownsRow w.heap.size T 1 v' xs.length (xs.map Value.string) → Below w.heap.size w w' →
      ∃ v av S' h', Ending.returned v' = .returned v ∧ Step S w S' w' ∧ Models S' h' w' ∧ Rep S' av v ∧ K av h' := by
    intro w' v' ho hb
    obtain ⟨_, ho⟩ := ho
    have hK := hk (.own h.length xs.length) [⟨.ty T, 1, xs.map strC⟩] (own_strs xs) ⟨_, rfl⟩
    rcases ho with ⟨rfl, hn⟩ | ⟨g, cap, cur, rfl, hg, hcur, hnc, hmax, hsz, htk⟩
    · have hxn : xs = [] := List.length_eq_zero_iff.1 hn
      subst hxn
      have hm' : Models S h w' := hm.below hb
      obtain ⟨m2, s2⟩ := Models.newNil hm' (E := .ty T) (sz := 1)
      refine ⟨_, _, _, _, rfl, (Step.below hb).trans s2, m2, ?_, hK⟩
      simp only [Rep]
      exact ⟨⟨_, _, _, rfl⟩, ⟨0, none, 0, 1⟩, by rw [← hm.len]; simp, Nat.le_refl _, fun _ => .inl rfl⟩
    · have hst : Stored { imm := S.imm, rows := S.rows ++ [⟨(xs.map strC).length, some g, cap, 1⟩] } w' g ⟨(xs.map strC).length, some g, cap, 1⟩ ⟨.ty T, 1, xs.map strC⟩ := by
        refine ⟨cur, hcur, strs_vals _ xs _ (by simpa using htk), hsz, by simpa using hnc, hmax⟩
      obtain ⟨m2, s2⟩ := Models.newAt hm (E := .ty T) (by intro e he; obtain ⟨x, _, q⟩ := List.mem_map.1 he; subst q; rfl) hg hst hb
      refine ⟨_, _, _, _, rfl, s2, m2, ?_, hK⟩
      simp only [Rep]
      exact ⟨⟨_, _, _, rfl⟩, ⟨(xs.map strC).length, some g, cap, 1⟩, by rw [← hm.len]; simp, by simp, fun _ => .inl (by simp [sliceAt])⟩
  simp only [Rep] at hv
  rcases hv with ⟨hn, _, p, c, rfl⟩ | ⟨b, off, cap, c, rfl, h1, h2, h3, _, h5, h6⟩
  · have hxn : xs = [] := by simpa using hn
    subst hxn
    cases p with
    | none =>
      refine (hnil 0 c w).mono ?_
      rintro en w' ⟨rfl, rfl⟩
      exact fin w' _ ⟨rfl, .inl ⟨rfl, rfl⟩⟩ (Below.refl _ _)
    | some a =>
      refine (hz a c w).mono ?_
      rintro en w' ⟨v', rfl, ho, hb⟩
      exact fin w' v' ho hb
  · have hlen : (xs.map strC).length = xs.length := by simp
    rw [hlen]
    refine (hcl b off xs.length cap xs w (Nat.le_refl _) (by omega) ?_).mono ?_
    · intro j hj
      obtain ⟨E, fr, hw⟩ := hm.imm b c h2
      have := strs_back _ xs _ j h6 hj
      rw [List.getElem?_drop] at this
      simp only [World.cell?, hw]
      simpa using this
    · rintro en w' ⟨v', rfl, ho, _, hb⟩
      rw [List.take_length] at ho
      exact fin w' v' ho hb
end Go.AW

namespace Go.AW

theorem Models.unfull {S : Sit} {h : List Row} {w : World} (m : Models S h w) {l : Nat} {E : TypeId} {sz : Nat} {es : List (List AV)} (hl : h[l]? = some ⟨.full E, sz, es⟩) : Models S (h.set l ⟨.ty E, sz, es⟩) w := by
  refine ⟨m.imm, by simp [m.len], fun l' i r q1 q2 => ?_, m.one⟩
  rw [List.getElem?_set] at q2
  by_cases e : l = l'
  · subst e
    have hlt := (List.getElem?_eq_some_iff.1 hl).1
    simp [hlt] at q2
    subst q2
    obtain ⟨k1, k2, k3, k4⟩ := m.rows l i _ q1 hl
    refine ⟨k1, k2, k3, ?_⟩
    cases hb : i.blk with
    | none => rw [hb] at k4; exact k4
    | some b =>
      rw [hb] at k4
      refine ⟨k4.1, ?_⟩
      have k5 := k4.2
      rw [Stored.full (E := E) rfl] at k5
      rw [Stored.ty (E := E) rfl]
      exact k5.1
  · simp [e] at q2
    exact m.rows l' i r q1 q2
theorem Models.mkfull {S : Sit} {h : List Row} {w : World} (m : Models S h w) {l : Nat} {i : Info} {E : TypeId} {sz : Nat} {es : List (List AV)} (hl : h[l]? = some ⟨.ty E, sz, es⟩) (hi : S.rows[l]? = some i) (hc : i.cap = i.len) : Models S (h.set l ⟨.full E, sz, es⟩) w := by
  refine ⟨m.imm, by simp [m.len], fun l' i' r q1 q2 => ?_, m.one⟩
  rw [List.getElem?_set] at q2
  by_cases e : l = l'
  · subst e
    have hlt := (List.getElem?_eq_some_iff.1 hl).1
    simp [hlt] at q2
    subst q2
    rw [hi] at q1
    obtain rfl := Option.some.inj q1
    obtain ⟨k1, k2, k3, k4⟩ := m.rows l i _ hi hl
    refine ⟨k1, k2, k3, ?_⟩
    cases hb : i.blk with
    | none => rw [hb] at k4; exact k4
    | some b =>
      rw [hb] at k4
      refine ⟨k4.1, ?_⟩
      have k5 := k4.2
      rw [Stored.ty (E := E) rfl] at k5
      rw [Stored.full (E := E) rfl]
      exact ⟨k5, hc⟩
  · simp [e] at q2
    exact m.rows l' i' r q1 q2
/-- A call that is given a whole row: there is room for one more, or there is none. -/
theorem room_cases {P : Program} {f : FuncId} {l N sz : Nat} {E : TypeId} {es : List (List AV)} {rest : List AV} {h : List Row} {K : AV → List Row → Prop} (hl : h[l]? = some ⟨.ty E, sz, es⟩) (hN : es.length = N) (hsz : 0 < sz)
    (h1 : callSem P f (.sub l (N + 1) 0 N :: rest) (h.set l ⟨.ty E, sz, es ++ [List.replicate sz .undef]⟩) K)
    (h2 : callSem P f (.sub l N 0 N :: rest) (h.set l ⟨.full E, sz, es⟩) fun av h' => h'[l]? = some ⟨.full E, sz, es⟩ ∧ K av (h'.set l ⟨.ty E, sz, es⟩)) : callSem P f (.sub l N 0 N :: rest) h K := by
  intro S w vals hm hgl hr
  have hr0 := hr
  simp only [RepL] at hr
  obtain ⟨v, r, hv, hr1, hr2⟩ := hr
  simp only [Rep] at hr1
  obtain ⟨_, i, p1, p2, p3⟩ := hr1
  obtain ⟨k1, k2, k3, k4⟩ := hm.rows l i _ p1 hl
  have hil : i.len = N := by rw [k1, hN]
  obtain ⟨_, _, g3⟩ := p3 hil.symm
  by_cases hc : i.len < i.cap
  · cases hb : i.blk with
    | none => rw [hb] at k4; have := k4.2; omega
    | some b =>
      rw [hb] at k4
      have k5 := k4.2
      rw [Stored.ty (E := E) rfl] at k5
      obtain ⟨c, j2, j3, j4, j5, j6⟩ := k5
      have hlen : ∀ e ∈ es ++ [List.replicate sz AV.undef], e.length = sz := by
        intro e he
        rcases List.mem_append.1 he with q | q
        · exact k3 e q
        · simp only [List.mem_singleton] at q; subst q; simp
      have hsz2 : i.sz = sz := k2
      have hg := Models.grow (w' := w) hm (E := E) rfl p1 hl (es' := es ++ [List.replicate sz .undef]) (b := b) (cap := i.cap) (c' := c) hlen (by simp)
        (by
          refine (RepLL_iff hlen).2 fun q e he j cc hj => ?_
          by_cases hq : q < es.length
          · rw [List.getElem?_append_left hq] at he
            exact (RepLL_iff k3).1 j3 q e he j cc hj
          · rw [List.getElem?_append_right (by omega)] at he
            have hq0 : q - es.length = 0 := by
              by_cases z : q - es.length = 0
              · exact z
              · obtain ⟨k, hk⟩ := Nat.exists_eq_succ_of_ne_zero z
                rw [hk] at he; simp at he
            rw [hq0] at he
            simp only [List.getElem?_cons_zero, Option.some.injEq] at he
            subst he
            have hjl : j < sz := by
              have := (List.getElem?_eq_some_iff.1 hj).1
              simpa using this
            have hcu : cc = .undef := by
              have := List.mem_of_getElem? hj
              exact List.eq_of_mem_replicate this
            subst hcu
            have hqe : q = es.length := by omega
            have hlt : q * sz + j < c.size := by
              rw [j4, hsz2, hqe, hN]
              have : (N + 1) * sz ≤ i.cap * sz := Nat.mul_le_mul_right _ (by omega)
              rw [Nat.add_mul] at this
              omega
            exact ⟨c[q * sz + j], by simp [hlt], by simp [Rep]⟩)
        (by show c.size = i.cap * sz; rw [j4, hsz2]) (by simp; omega) j6 (.inl hb) j2 (fun _ _ _ => rfl) (Nat.le_refl _) rfl rfl rfl
      have hS := hg.2
      refine (h1 _ w vals hg.1 (hgl.up hS.le) ?_).mono ?_
      · rw [hv]
        simp only [RepL]
        refine ⟨v, r, rfl, ?_, RepL.up hS.le _ _ hr2⟩
        have hll : l < S.rows.length := (List.getElem?_eq_some_iff.1 p1).1
        simp only [Rep]
        refine ⟨?_, ⟨(es ++ [List.replicate sz AV.undef]).length, some b, i.cap, sz⟩, by simp [hll], by simp; omega, fun _ => ⟨Nat.zero_le _, by omega, .inr ?_⟩⟩
        · rcases g3 with ⟨_, p, q⟩ | ⟨b', off, _, q, _⟩
          · exact ⟨_, _, _, q⟩
          · exact ⟨_, _, _, q⟩
        · rcases g3 with ⟨q, _⟩ | ⟨b', off, hb', q, hoff⟩
          · rw [hb] at q; cases q
          · rw [hb] at hb'; cases hb'
            exact ⟨b, off, rfl, q, fun hp => by have := hoff hp; simpa using this⟩
      · rintro e w' ⟨v', av, S2, h2', e1, st, m2, rv, k⟩
        exact ⟨v', av, S2, h2', e1, hS.trans st, m2, rv, k⟩
  · have hcap : i.cap = i.len := by
      cases hb : i.blk with
      | none => rw [hb] at k4; rw [k4.2, k1, k4.1]; rfl
      | some b =>
        rw [hb] at k4
        have k5 := k4.2
        rw [Stored.ty (E := E) rfl] at k5
        obtain ⟨c, j2, j3, j4, j5, j6⟩ := k5
        omega
    refine (h2 S w vals (hm.mkfull hl p1 hcap) hgl hr0).mono ?_
    rintro e w' ⟨v', av, S2, h2', e1, st, m2, rv, q1, q2⟩
    exact ⟨v', av, S2, h2'.set l ⟨.ty E, sz, es⟩, e1, st, m2.unfull q1, rv, q2⟩
/-- A row taken whole is a part of itself. -/
theorem Rep.own_sub {S : Sit} {l n : Nat} {x : Value} (r : Rep S (.own l n) x) : Rep S (.sub l n 0 n) x := by
  simp only [Rep] at r ⊢
  obtain ⟨r0, i, r1, r2, r3⟩ := r
  refine ⟨r0, i, r1, r2, fun q => ⟨Nat.zero_le _, Nat.le_refl _, ?_⟩⟩
  rcases r3 q with h | ⟨h1, h2⟩
  · cases hb : i.blk with
    | none => left; exact ⟨rfl, none, by simpa [sliceAt, hb] using h⟩
    | some b =>
      right
      refine ⟨b, 0, rfl, ?_, fun _ => by simp⟩
      rw [h]; simp only [sliceAt, hb]
      rw [q]; rfl
  · left
    obtain ⟨p, h2⟩ := h2
    exact ⟨h1, p, by simpa using h2⟩
theorem callSem.own_sub {P : Program} {f : FuncId} {l n : Nat} {rest : List AV} {h : List Row} {K : AV → List Row → Prop} (hc : callSem P f (.sub l n 0 n :: rest) h K) : callSem P f (.own l n :: rest) h K := by
  intro S w vals hm hgl hr
  refine hc S w vals hm hgl ?_
  simp only [RepL] at hr ⊢
  obtain ⟨v, r, hv, hr1, hr2⟩ := hr
  exact ⟨v, r, hv, hr1.own_sub, hr2⟩
end Go.AW

namespace Go.AW

theorem sub_flatten {α : Type} : ∀ {a b : List (List α)}, a.Sublist b → a.flatten.Sublist b.flatten := by
  intro a b h
  induction h with
  | slnil => exact List.Sublist.refl _
  | cons x _ ih => rw [List.flatten_cons]; exact ih.trans (List.sublist_append_right _ _)
  | cons_cons x _ ih => rw [List.flatten_cons, List.flatten_cons]; exact List.Sublist.append (List.Sublist.refl _) ih
/-- An element: its cells, what they come to, the rows in them. -/
structure Tr where
  c : List AV
  d : List AV
  f : List Nat
theorem OwnLL.of_trs {R : AV → AV → List Nat → Prop} : ∀ ts : List Tr, (∀ t ∈ ts, OwnL R t.c t.d t.f) → OwnLL R (ts.map Tr.c) (ts.map Tr.d) (ts.map Tr.f).flatten
  | [], _ => ⟨rfl, rfl⟩
  | t :: ts, h => ⟨t.d, ts.map Tr.d, t.f, (ts.map Tr.f).flatten, rfl, by simp, h t (by simp), OwnLL.of_trs ts fun x hx => h x (by simp [hx])⟩
theorem OwnLL.trs {R : AV → AV → List Nat → Prop} : ∀ {es ds : List (List AV)} {fs : List Nat}, OwnLL R es ds fs → ∃ ts : List Tr, ts.map Tr.c = es ∧ ts.map Tr.d = ds ∧ (ts.map Tr.f).flatten = fs ∧ ∀ t ∈ ts, OwnL R t.c t.d t.f
  | [], ds, fs, h => by
    obtain ⟨rfl, rfl⟩ := h
    exact ⟨[], rfl, rfl, rfl, by simp⟩
  | e :: es, ds, fs, h => by
    obtain ⟨d, ds', f, f', rfl, rfl, h1, h2⟩ := h
    obtain ⟨ts, rfl, rfl, rfl, h3⟩ := OwnLL.trs h2
    refine ⟨⟨e, d, f⟩ :: ts, rfl, rfl, by simp, fun t ht => ?_⟩
    rcases List.mem_cons.1 ht with q | q
    · subst q; exact h1
    · exact h3 t q
theorem Own.cell_of {H : List Row} {k : Nat} {a r : AV} {f : List Nat} (h : Own H k a r f) (hr : r.cell = true) : a.cell = true := by
  cases k with
  | zero => exact h.elim
  | succ k =>
    cases a with
    | val v =>
      obtain ⟨_, q | ⟨rfl, _⟩⟩ := h
      · subst q; exact hr
      · rfl
    | agg cs => obtain ⟨ds, _, q⟩ := h; subst q; cases hr
    | tup cs => obtain ⟨ds, _, q⟩ := h; subst q; cases hr
    | undef => exact h.elim
    | _ => rfl
theorem OwnL.cells_of {H : List Row} {k : Nat} : ∀ {c d : List AV} {f : List Nat}, OwnL (Own H k) c d f → (∀ r ∈ d, r.cell = true) → c.length = d.length ∧ c.all AV.cell = true
  | [], d, f, h, _ => by
    obtain ⟨rfl, _⟩ := h
    exact ⟨rfl, rfl⟩
  | a :: c, d, f, h, hd => by
    obtain ⟨r, ds, g, g', rfl, rfl, h1, h2⟩ := h
    obtain ⟨q1, q2⟩ := OwnL.cells_of h2 fun x hx => hd x (by simp [hx])
    refine ⟨by simp [q1], ?_⟩
    rw [List.all_cons, q2, h1.cell_of (hd r (by simp))]; rfl
theorem idxFrom_first {α : Type} (p : α → Bool) : ∀ (xs : List α) (k : Nat), (idxFrom p xs k = -1 ∧ ∀ c ∈ xs, p c = false) ∨ ∃ i, ∃ hi : i < xs.length, idxFrom p xs k = ((k + i : Nat) : Int) ∧ p xs[i] = true ∧ ∀ (j : Nat) (hj : j < i), p xs[j] = false
  | [], k => .inl ⟨rfl, fun _ h => by simp at h⟩
  | x :: r, k => by
    by_cases q : p x = true
    · exact .inr ⟨0, by simp, by simp [idxFrom, q], by simpa using q, fun j hj => absurd hj (Nat.not_lt_zero j)⟩
    · have q' : p x = false := by simpa using q
      rcases idxFrom_first p r (k + 1) with ⟨h1, h2⟩ | ⟨i, hi, h1, h2, h3⟩
      · refine .inl ⟨?_, fun c hc => ?_⟩
        · unfold idxFrom; rw [q']; simpa using h1
        · rcases List.mem_cons.1 hc with e | e
          · subst e; exact q'
          · exact h2 c e
      · refine .inr ⟨i + 1, by simpa using hi, ?_, by simpa using h2, fun j hj => ?_⟩
        · unfold idxFrom; rw [q']
          simp only [Bool.false_eq_true, if_false]
          rw [h1]; congr 1; omega
        · cases j with
          | zero => exact q'
          | succ j => exact h3 j (by omega)
/-- The rows in a slice. -/
def foot (l : Nat) (ts : List Tr) : List Nat := l :: (ts.map Tr.f).flatten
/-- Row l holds the elements ts, whose rows lie from lo on; the first m count. -/
structure SlAt (lo : Nat) (H : List Row) (E sz l m : Nat) (ts : List Tr) : Prop where
  row : H[l]? = some ⟨.ty E, sz, ts.map Tr.c⟩
  le : m ≤ ts.length
  wide : ∀ t ∈ ts, t.c.length = sz ∧ t.c.all AV.cell = true
  tree : ∃ k, ∀ t ∈ ts, OwnL (Own H k) t.c t.d t.f
  one : (foot l ts).Nodup
  lows : ∀ x ∈ foot l ts, lo ≤ x ∧ x < H.length
/-- A slice value over that row. -/
def Sl (a : AV) (l m : Nat) (ts : List Tr) : Prop := a = .sub l ts.length 0 m ∨ (a = .own l ts.length ∧ m = ts.length)
section
variable {lo E sz l m : Nat} {H H' : List Row} {ts : List Tr} {a : AV}
theorem SlAt.lt (s : SlAt lo H E sz l m ts) : l < H.length := (List.getElem?_eq_some_iff.1 s.row).1
theorem SlAt.fresh (s : SlAt lo H E sz l m ts) : FreshB lo H.length H (.sub l ts.length 0 m) (.list 0 sz ((ts.take m).map Tr.d)) := by
  obtain ⟨k, hk⟩ := s.tree
  exact ⟨k + 1, foot l ts, ⟨⟨.ty E, sz, ts.map Tr.c⟩, ts.map Tr.d, (ts.map Tr.f).flatten, s.row, by simp, OwnLL.of_trs ts hk, by simp [List.map_take], rfl⟩, s.one, s.lows⟩
theorem SlAt.freshOwn (s : SlAt lo H E sz l m ts) : FreshB lo H.length H (.own l ts.length) (.list 0 sz (ts.map Tr.d)) := by
  obtain ⟨k, hk⟩ := s.tree
  exact ⟨k + 1, foot l ts, ⟨⟨.ty E, sz, ts.map Tr.c⟩, ts.map Tr.d, (ts.map Tr.f).flatten, s.row, by simp, OwnLL.of_trs ts hk, rfl, rfl⟩, s.one, s.lows⟩
theorem SlAt.freshS (s : SlAt lo H E sz l m ts) (h : Sl a l m ts) : FreshB lo H.length H a (.list 0 sz ((ts.take m).map Tr.d)) := by
  rcases h with rfl | ⟨rfl, rfl⟩
  · exact s.fresh
  · rw [List.take_length]; exact s.freshOwn
theorem Sl.cell (h : Sl a l m ts) : a.cell = true := by
  rcases h with rfl | ⟨rfl, _⟩ <;> rfl
theorem SlAt.keep (s : SlAt lo H E sz l m ts) (hk : ∀ x ∈ foot l ts, H'[x]? = H[x]?) (hl : H.length ≤ H'.length) : SlAt lo H' E sz l m ts := by
  obtain ⟨k, ht⟩ := s.tree
  refine ⟨by rw [hk l (by simp [foot])]; exact s.row, s.le, s.wide, ⟨k, fun t q => ?_⟩, s.one, fun x hx => ?_⟩
  · refine OwnL.mono (fun a r g hg ho => ho.keep fun x hx => hk x ?_) (ht t q)
    exact List.mem_cons_of_mem _ (List.mem_flatten.2 ⟨t.f, List.mem_map.2 ⟨t, q, rfl⟩, hg x hx⟩)
  · have := s.lows x hx; omega
theorem SlAt.more (s : SlAt lo H E sz l m ts) (h : More H H') : SlAt lo H' E sz l m ts := s.keep (fun x hx => h.kept x (s.lows x hx).2) h.len
theorem mem_foot {t : Tr} {x : Nat} (ht : t ∈ ts) (hx : x ∈ t.f) : x ∈ foot l ts := List.mem_cons_of_mem _ (List.mem_flatten.2 ⟨t.f, List.mem_map.2 ⟨t, ht, rfl⟩, hx⟩)
theorem SlAt.apart (s : SlAt lo H E sz l m ts) {t : Tr} (ht : t ∈ ts) : l ∉ t.f := by
  intro h
  have := (List.nodup_cons.1 s.one).1
  exact this (List.mem_flatten.2 ⟨t.f, List.mem_map.2 ⟨t, ht, rfl⟩, h⟩)
/-- An element as an argument, while the rows in it stand. -/
theorem SlAt.arg (s : SlAt lo H E sz l m ts) {t : Tr} (ht : t ∈ ts) (hk : ∀ x ∈ t.f, H'[x]? = H[x]?) : ArgOwn H' (.agg t.c) (.agg t.d) := by
  obtain ⟨k, h⟩ := s.tree
  exact .inr ⟨k + 1, t.f, t.d, OwnL.mono (fun a r g hg ho => ho.keep fun x hx => hk x (hg x hx)) (h t ht), rfl⟩
/-- The row is written anew, or there is a new one: elements that were there, and new ones. -/
theorem SlAt.renew (s : SlAt lo H E sz l m ts) {l' m' : Nat} {ts' new old : List Tr} (hrow : H'[l']? = some ⟨.ty E, sz, ts'.map Tr.c⟩) (hle : m' ≤ ts'.length) (hp : ts'.Perm (new ++ old)) (ho : old.Sublist ts)
    (hw : ∀ t ∈ new, t.c.length = sz ∧ t.c.all AV.cell = true) (hn : ∃ k, ∀ t ∈ new, OwnL (Own H' k) t.c t.d t.f) (hnd : (new.map Tr.f).flatten.Nodup) (hnf : ∀ x ∈ (new.map Tr.f).flatten, x ∉ foot l ts ∧ x ≠ l' ∧ lo ≤ x ∧ x < H'.length)
    (hk : ∀ x ∈ (ts.map Tr.f).flatten, H'[x]? = H[x]?) (hl : l' = l ∨ H.length ≤ l') (hlen : H.length ≤ H'.length) : SlAt lo H' E sz l' m' ts' := by
  obtain ⟨k, ht⟩ := s.tree
  obtain ⟨k2, hn⟩ := hn
  have hmem : ∀ t ∈ ts', t ∈ new ∨ t ∈ ts := fun t q => by
    rcases List.mem_append.1 (hp.mem_iff.1 q) with q | q
    · exact .inl q
    · exact .inr (ho.subset q)
  have hfl : (ts'.map Tr.f).flatten.Perm ((new.map Tr.f).flatten ++ (old.map Tr.f).flatten) := by
    have := (hp.map Tr.f).flatten
    rwa [List.map_append, List.flatten_append] at this
  have hsub : (old.map Tr.f).flatten.Sublist (ts.map Tr.f).flatten := sub_flatten (ho.map Tr.f)
  have hone := List.nodup_cons.1 s.one
  have hl0 : lo ≤ l' ∧ l' < H'.length := by
    have h2 := (List.getElem?_eq_some_iff.1 hrow).1
    have h3 := s.lows l (by simp [foot])
    rcases hl with e | e
    · subst e; omega
    · omega
  have hlout : l' ∉ (ts.map Tr.f).flatten := by
    intro q
    rcases hl with e | e
    · subst e; exact hone.1 q
    · have := (s.lows l' (List.mem_cons_of_mem _ q)).2; omega
  refine ⟨hrow, hle, fun t q => ?_, ⟨k + k2, fun t q => ?_⟩, ?_, fun x hx => ?_⟩
  · rcases hmem t q with q | q
    · exact hw t q
    · exact s.wide t q
  · rcases hmem t q with q | q
    · exact OwnL.up (by omega) (hn t q)
    · refine OwnL.up (n := k) (by omega) (OwnL.mono (fun a r g hg ho => ho.keep fun x hx => hk x ?_) (ht t q))
      exact List.mem_flatten.2 ⟨t.f, List.mem_map.2 ⟨t, q, rfl⟩, hg x hx⟩
  · refine List.nodup_cons.2 ⟨fun q => ?_, hfl.nodup_iff.2 (List.nodup_append.2 ⟨hnd, hone.2.sublist hsub, ?_⟩)⟩
    · rcases List.mem_append.1 (hfl.mem_iff.1 q) with q | q
      · exact (hnf l' q).2.1 rfl
      · exact hlout (hsub.subset q)
    · intro x hx y hy e
      subst e
      exact (hnf x hx).1 (List.mem_cons_of_mem _ (hsub.subset hy))
  · rcases List.mem_cons.1 hx with e | q
    · subst e; exact hl0
    · rcases List.mem_append.1 (hfl.mem_iff.1 q) with q | q
      · have := hnf x q; omega
      · have := s.lows x (List.mem_cons_of_mem _ (hsub.subset q)); omega
/-- One element is written over: the same rows in it. -/
theorem SlAt.put (s : SlAt lo H E sz l m ts) {k : Nat} {t' : Tr} (hk : k < ts.length) (hf : t'.f = ts[k].f) (hw : t'.c.length = sz ∧ t'.c.all AV.cell = true) (ht : ∀ n, OwnL (Own H n) ts[k].c ts[k].d ts[k].f → OwnL (Own H n) t'.c t'.d t'.f) : SlAt lo (H.set l ⟨.ty E, sz, (ts.set k t').map Tr.c⟩) E sz l m (ts.set k t') := by
  obtain ⟨q, h⟩ := s.tree
  have hmap : (ts.set k t').map Tr.f = ts.map Tr.f := by
    rw [List.map_set, hf]
    apply List.ext_getElem?
    intro i
    rw [List.getElem?_set]
    split
    · rename_i e
      subst e
      rw [if_pos (by simpa using hk), List.getElem?_map, List.getElem?_eq_getElem hk]; rfl
    · rfl
  have hkeep : ∀ t ∈ ts, ∀ x ∈ t.f, (H.set l ⟨.ty E, sz, (ts.set k t').map Tr.c⟩)[x]? = H[x]? := fun t ht x hx => List.getElem?_set_ne (fun e : l = x => s.apart ht (by rw [e]; exact hx))
  refine ⟨by rw [List.getElem?_set_self s.lt], by rw [List.length_set]; exact s.le, fun t ht' => ?_, ⟨q, fun t ht' => ?_⟩, ?_, fun x hx => ?_⟩
  · rcases List.mem_or_eq_of_mem_set ht' with e | e
    · exact s.wide t e
    · subst e; exact hw
  · rcases List.mem_or_eq_of_mem_set ht' with e | e
    · exact OwnL.mono (fun a r g hg ho => ho.keep fun x hx => hkeep t e x (hg x hx)) (h t e)
    · subst e
      have := ht q (h _ (List.getElem_mem hk))
      exact OwnL.mono (fun a r g hg ho => ho.keep fun x hx => hkeep _ (List.getElem_mem hk) x (by rw [← hf]; exact hg x hx)) this
  · unfold foot; rw [hmap]; exact s.one
  · unfold foot at hx; rw [hmap] at hx
    rw [List.length_set]; exact s.lows x hx
end
/-! Arguments that are read: trees, plain values, boxes of these. -/
/-- Read as r, whatever memory the rows describe. -/
structure ArgAny (H : List Row) (a r : AV) : Prop where
  out : ∀ (S : Sit) (w : World) (x : Value), Models S H w → Rep S a x → Rep (S.shut w) r x
def ArgsAny (H : List Row) : List AV → List AV → Prop
  | [], rs => rs = []
  | a :: as, rs => ∃ r rs', rs = r :: rs' ∧ ArgAny H a r ∧ ArgsAny H as rs'
theorem ArgsAny.nil {H : List Row} : ArgsAny H [] [] := rfl
theorem ArgsAny.cons {H : List Row} {a r : AV} {as rs : List AV} (h1 : ArgAny H a r) (h2 : ArgsAny H as rs) : ArgsAny H (a :: as) (r :: rs) := ⟨_, _, rfl, h1, h2⟩
theorem ArgOwn.any {H : List Row} {a r : AV} (h : ArgOwn H a r) : ArgAny H a r := ⟨fun S w x m hr => by
  rcases h with ⟨rfl, hp⟩ | ⟨n, fs, h1⟩
  · exact Rep.up (shut_le m) _ _ (plain_still hp hr)
  · exact Own.rep m n a x r fs hr h1⟩
theorem ArgAny.same {H : List Row} {a : AV} (hp : a.plain = true) : ArgAny H a a := (ArgOwn.same hp).any
theorem ArgAny.res {H : List Row} {a r : AV} {n : Nat} (h : resolve H n a = some r) : ArgAny H a r := ⟨fun S w x m hr => resolve_rep m n a x r hr h⟩
/-- A box. -/
theorem ArgAny.box {H : List Row} {l : Nat} {E : Tag} {sz : Nat} {c r : AV} (hl : H[l]? = some ⟨E, sz, [[c]]⟩) (hc : ArgAny H c r) : ArgAny H (.ptr l 1 0 0) (.iptr [r]) := ⟨fun S w x m hr => by
  simp only [Rep] at hr
  obtain ⟨_, i, q1, q2, q3⟩ := hr
  obtain ⟨k1, k2, k3, k4⟩ := m.rows l i _ q1 hl
  obtain ⟨b, hb, hx⟩ := q3 (by rw [k1]; rfl)
  rw [hb] at k4
  obtain ⟨_, cs, _, j2, j3, j4, j5, j6⟩ := k4.2.cells (.inl (by simp))
  simp only [RepLL, RepPre] at j3
  obtain ⟨⟨v, q, e, r1, _⟩, _⟩ := j3
  have hown : S.ownsB b = true := ownsB_iff.2 ⟨l, i, q1, hb⟩
  have hlen : cs.size = q.length + 1 := by
    have := congrArg List.length e
    simpa using this
  simp only [Rep]
  refine ⟨b, 0, cs, by simpa using hx, by simp [Sit.shut, hown, j2], by simp [hlen], ?_⟩
  rw [List.drop_zero, e]
  simp only [RepPre]
  exact ⟨v, q, rfl, hc.out S w v m r1, trivial⟩⟩
theorem ArgsAny.rep {S : Sit} {H : List Row} {w : World} (m : Models S H w) : ∀ {as rs : List AV} {xs : List Value}, ArgsAny H as rs → RepL S as xs → RepL (S.shut w) rs xs
  | [], rs, xs, h, r => by subst h; simpa [RepL] using r
  | a :: as, rs, xs, h, r => by
    obtain ⟨d, ds, e, h1, h2⟩ := h
    subst e
    simp only [RepL] at r ⊢
    obtain ⟨v, q, e, r1, r2⟩ := r
    exact ⟨v, q, e, h1.out S w v m r1, ArgsAny.rep m h2 r2⟩
theorem PureCall.anyR {P : Program} {f : FuncId} {as rs : List AV} {H : List Row} {r : AV} (hs : r.solid = true) (hc : ∀ h, PureCall P f rs h r) (ha : ArgsAny H as rs) : PureCall P f as H r := by
  intro K hk S w vals hm hgl hr
  have hm0 : Models (S.shut w) [] w := ⟨hm.shut, rfl, by simp [Sit.shut], by simp [Sit.shut]⟩
  refine (hc [] (fun q _ => q = r) rfl (S.shut w) w vals hm0 (hgl.shut hm) (ha.rep hm hr)).mono ?_
  rintro e w' ⟨v', av, S1, h1, rfl, st, hm1, rv, rfl⟩
  have b : Go.RowKit.Below w.heap.size w w' := ⟨st.os, st.tape, st.output, st.size, fun k hk => st.block k hk (by rintro ⟨l, i, q, _⟩; simp [Sit.shut] at q)⟩
  exact ⟨v', _, S, H, rfl, Step.below b, hm.below b, solid_any hs rv, hk⟩
theorem fresh_any {P : Program} {f : FuncId} {as rs : List AV} {H : List Row} {r : AV} {Q : AV → Prop} (hc : FreshCall P f rs r Q) (ha : ArgsAny H as rs) {K : AV → List Row → Prop} (hk : ∀ av H', More H H' → FB H.length H'.length H' av r → Q av → K av H') : callSem P f as H K :=
  fresh_args hc (fun S w xs m hr => ha.rep m hr) (fun av hn hf hq => hk av _ (More.app _ _) ⟨hf.b, Nat.le_refl _⟩ hq)
theorem FB.three {lo hi : Nat} {H : List Row} {a r : AV} {v u v2 u2 : Value} (h : FB lo hi H (.tup [a, .val v, .val v2]) (.tup [r, .val u, .val u2])) : FB lo hi H a r ∧ (.val v = AV.val u) ∧ (.val v2 = AV.val u2) := by
  have h4 := h.le
  obtain ⟨n, fs, h1, h2, h3⟩ := h.tree.untup
  obtain ⟨d, ds, f, f', e1, rfl, q1, q2⟩ := h1
  simp only [List.cons.injEq] at e1
  obtain ⟨rfl, rfl⟩ := e1
  obtain ⟨d, ds, f2, f3, e1, rfl, q3, q4⟩ := q2
  simp only [List.cons.injEq] at e1
  obtain ⟨rfl, rfl⟩ := e1
  obtain ⟨d, ds, f4, f5, e1, rfl, q5, q6⟩ := q4
  simp only [List.cons.injEq] at e1
  obtain ⟨rfl, rfl⟩ := e1
  obtain ⟨_, rfl⟩ := q6
  obtain ⟨rfl, e⟩ := q3.of_val
  obtain ⟨rfl, e2⟩ := q5.of_val
  refine ⟨⟨⟨n, f, q1, (List.nodup_append.1 h2).1, fun l hl => h3 l (List.mem_append_left _ hl)⟩, h4⟩, e, e2⟩
/-- A row that has grown. -/
theorem GrowAt.slat {l : Nat} {H : List Row} {E sz : Nat} {done ds : List (List AV)} (g : GrowAt l H (.ty E) sz done ds) (hd : ∀ d ∈ ds, d.length = sz ∧ ∀ r ∈ d, r.cell = true) : ∃ ts : List Tr, ts.map Tr.c = done ∧ ts.map Tr.d = ds ∧ SlAt l H E sz l ts.length ts := by
  obtain ⟨n, fs, h1, h2, h3⟩ := g.tree
  obtain ⟨ts, rfl, rfl, rfl, h4⟩ := OwnLL.trs h1
  refine ⟨ts, rfl, rfl, g.row, Nat.le_refl _, fun t ht => ?_, ⟨n, h4⟩, List.nodup_cons.2 ⟨fun q => ?_, h2⟩, fun x hx => ?_⟩
  · obtain ⟨q1, q2⟩ := hd t.d (List.mem_map.2 ⟨t, ht, rfl⟩)
    obtain ⟨q3, q4⟩ := (h4 t ht).cells_of q2
    exact ⟨q3.trans q1, q4⟩
  · have := h3 l q; omega
  · rcases List.mem_cons.1 hx with e | q
    · subst e; exact ⟨Nat.le_refl _, g.lt⟩
    · have := h3 x q; omega
/-- A box that holds such a slice in its only cell. -/
structure TB (E0 E sz L lo : Nat) (H : List Row) (l m : Nat) (ts : List Tr) : Prop where
  box : ∃ a, H[L]? = some ⟨.ty E0, 1, [[a]]⟩ ∧ Sl a l m ts
  lt : L < lo
  at' : SlAt lo H E sz l m ts
theorem TB.tree {E0 E sz L lo l m : Nat} {H : List Row} {ts : List Tr} (b : TB E0 E sz L lo H l m ts) : ∃ a, H[L]? = some ⟨.ty E0, 1, [[a]]⟩ ∧ Sl a l m ts ∧ FreshB lo H.length H a (.list 0 sz ((ts.take m).map Tr.d)) := by
  obtain ⟨a, h1, h2⟩ := b.box
  exact ⟨a, h1, h2, b.at'.freshS h2⟩
theorem TB.keep {E0 E sz L lo l m : Nat} {H H' : List Row} {ts : List Tr} (b : TB E0 E sz L lo H l m ts) (hb : H'[L]? = H[L]?) (hk : ∀ x ∈ foot l ts, H'[x]? = H[x]?) (hl : H.length ≤ H'.length) : TB E0 E sz L lo H' l m ts := by
  obtain ⟨a, h1, h2⟩ := b.box
  exact ⟨⟨a, hb.trans h1, h2⟩, b.lt, b.at'.keep hk hl⟩
theorem TB.more {E0 E sz L lo l m : Nat} {H H' : List Row} {ts : List Tr} (b : TB E0 E sz L lo H l m ts) (h : More H H') : TB E0 E sz L lo H' l m ts := by
  obtain ⟨a, h1, h2⟩ := b.box
  exact b.keep (h.kept L (List.getElem?_eq_some_iff.1 h1).1) (fun x hx => h.kept x (b.at'.lows x hx).2) h.len
end Go.AW
