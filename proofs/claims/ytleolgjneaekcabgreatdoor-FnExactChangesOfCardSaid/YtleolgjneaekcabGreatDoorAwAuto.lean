/-
  AW, part 25: tests that wait until they are known, and how to split on them.
-/
import Derived.Test.YtleolgjneaekcabGreatDoorAwB
namespace Go.AW
section
variable {P : Program} {N : Nat} {Q : Post} {k : List Fr} {t : Nat → AV} {h : List Row}

/-- A branch: it waits until its test is known. -/
structure ExC (P : Program) (N : Nat) (Q : Post) (v : AV) (a b : LC) (k : List Fr) (t : Nat → AV) (h : List Row) : Prop where
  out : match v with | .val (.bool q) => (q = true → Ex P N Q a k t h) ∧ (q = false → Ex P N Q b k t h) | _ => False

theorem Ex_condC (c : Operand) (a b : LC) : Ex P N Q (.cond c a b) k t h = ExC P N Q (aeval t c) a b k t h := by
  rw [Ex_cond]
  exact propext ⟨fun q => ⟨q⟩, fun q => q.out⟩
theorem ExC_true (a b : LC) : ExC P N Q (.val (.bool true)) a b k t h = Ex P N Q a k t h :=
  propext ⟨fun q => q.out.1 rfl, fun q => ⟨⟨fun _ => q, fun e => (by cases e)⟩⟩⟩
theorem ExC_false (a b : LC) : ExC P N Q (.val (.bool false)) a b k t h = Ex P N Q b k t h :=
  propext ⟨fun q => q.out.2 rfl, fun q => ⟨⟨fun e => (by cases e), fun _ => q⟩⟩⟩

theorem ExC_split {q : Bool} {a b : LC} (h1 : q = true → Ex P N Q a k t h) (h2 : q = false → Ex P N Q b k t h) : ExC P N Q (.val (.bool q)) a b k t h := ⟨⟨h1, h2⟩⟩
theorem ExC_splitN {q : Bool} {a b : LC} (h1 : q = true → Ex P N Q b k t h) (h2 : q = false → Ex P N Q a k t h) : ExC P N Q (.val (.bool (!q))) a b k t h :=
  ⟨⟨fun e => h2 (by simpa using e), fun e => h1 (by simpa using e)⟩⟩
theorem ExG_split {q : Bool} {d : Option Nat} {op : LOp} {l : List LI} (h1 : q = true → ExG P N Q (some true) d op l k t h) (h2 : q = false → ExG P N Q (some false) d op l k t h) : ExG P N Q (some q) d op l k t h := by
  cases q
  · exact h2 rfl
  · exact h1 rfl
theorem ExG_splitN {q : Bool} {d : Option Nat} {op : LOp} {l : List LI} (h1 : q = true → ExG P N Q (some false) d op l k t h) (h2 : q = false → ExG P N Q (some true) d op l k t h) : ExG P N Q (some (!q)) d op l k t h := by
  cases q
  · exact h2 rfl
  · exact h1 rfl
theorem ExH_split {q : Bool} {d : Option Nat} {op : LOp} {l : List LI} (h1 : q = true → ExH P N Q (some true) d op l k t h) (h2 : q = false → ExH P N Q (some false) d op l k t h) : ExH P N Q (some q) d op l k t h := by
  cases q
  · exact h2 rfl
  · exact h1 rfl
theorem ExH_splitN {q : Bool} {d : Option Nat} {op : LOp} {l : List LI} (h1 : q = true → ExH P N Q (some false) d op l k t h) (h2 : q = false → ExH P N Q (some true) d op l k t h) : ExH P N Q (some (!q)) d op l k t h := by
  cases q
  · exact h2 rfl
  · exact h1 rfl
theorem ExG_T {q : Bool} {d : Option Nat} {op : LOp} {l : List LI} (e : q = true) (h1 : q = true → ExG P N Q (some true) d op l k t h) : ExG P N Q (some q) d op l k t h := by subst e; exact h1 rfl
theorem ExG_F {q : Bool} {d : Option Nat} {op : LOp} {l : List LI} (e : q = false) (h1 : q = false → ExG P N Q (some false) d op l k t h) : ExG P N Q (some q) d op l k t h := by subst e; exact h1 rfl
theorem ExG_NT {q : Bool} {d : Option Nat} {op : LOp} {l : List LI} (e : q = true) (h1 : q = true → ExG P N Q (some false) d op l k t h) : ExG P N Q (some (!q)) d op l k t h := by subst e; exact h1 rfl
theorem ExG_NF {q : Bool} {d : Option Nat} {op : LOp} {l : List LI} (e : q = false) (h1 : q = false → ExG P N Q (some true) d op l k t h) : ExG P N Q (some (!q)) d op l k t h := by subst e; exact h1 rfl
theorem ExH_T {q : Bool} {d : Option Nat} {op : LOp} {l : List LI} (e : q = true) (h1 : q = true → ExH P N Q (some true) d op l k t h) : ExH P N Q (some q) d op l k t h := by subst e; exact h1 rfl
theorem ExH_F {q : Bool} {d : Option Nat} {op : LOp} {l : List LI} (e : q = false) (h1 : q = false → ExH P N Q (some false) d op l k t h) : ExH P N Q (some q) d op l k t h := by subst e; exact h1 rfl
theorem ExH_NT {q : Bool} {d : Option Nat} {op : LOp} {l : List LI} (e : q = true) (h1 : q = true → ExH P N Q (some false) d op l k t h) : ExH P N Q (some (!q)) d op l k t h := by subst e; exact h1 rfl
theorem ExH_NF {q : Bool} {d : Option Nat} {op : LOp} {l : List LI} (e : q = false) (h1 : q = false → ExH P N Q (some true) d op l k t h) : ExH P N Q (some (!q)) d op l k t h := by subst e; exact h1 rfl
theorem ExC_T {q : Bool} {a b : LC} (e : q = true) (h1 : q = true → Ex P N Q a k t h) : ExC P N Q (.val (.bool (q))) a b k t h := by subst e; exact (ExC_true a b).symm ▸ h1 rfl
theorem ExC_F {q : Bool} {a b : LC} (e : q = false) (h1 : q = false → Ex P N Q b k t h) : ExC P N Q (.val (.bool (q))) a b k t h := by subst e; exact (ExC_false a b).symm ▸ h1 rfl
theorem ExC_NT {q : Bool} {a b : LC} (e : q = true) (h1 : q = true → Ex P N Q b k t h) : ExC P N Q (.val (.bool (!q))) a b k t h := by subst e; exact (ExC_false a b).symm ▸ h1 rfl
theorem ExC_NF {q : Bool} {a b : LC} (e : q = false) (h1 : q = false → Ex P N Q a k t h) : ExC P N Q (.val (.bool (!q))) a b k t h := by subst e; exact (ExC_true a b).symm ▸ h1 rfl
end

/-- The bytes of a text, as numbers. -/
def byts (s : ByteArray) : List Int := s.data.toList.map fun b => (b.toNat : Int)
theorem byts_length (s : ByteArray) : (byts s).length = s.size := by
  unfold byts; rw [List.length_map, Array.length_toList]; rfl
theorem str_get {s : ByteArray} {i : Nat} (h : i < s.size) : s[i]? = some s[i] := getElem?_pos s i h
theorem str_at {s : ByteArray} {i : Nat} (h : i < s.size) : ((s[i]).toNat : Int) = (byts s)[i]'(by rw [byts_length]; exact h) := by
  simp only [byts, List.getElem_map, Array.getElem_toList]; rfl
theorem indexStr_at {s : ByteArray} {i : Nat} (h : i < s.size) : (match s[i]? with | some b => some (AV.val (Value.int .u8 b.toNat)) | none => none) = some (AV.val (Value.int .u8 ((byts s)[i]'(by rw [byts_length]; exact h)))) := by
  rw [str_get h]; simp only [str_at h]

/-- The index of the first element with p, from k up; -1: none. -/
def idxFrom {α : Type} (p : α → Bool) : List α → Nat → Int
  | [], _ => -1
  | x :: xs, k => if p x then (k : Int) else idxFrom p xs (k + 1)
theorem idxFrom_drop {α : Type} (p : α → Bool) (xs : List α) (k : Nat) (h : k < xs.length) : idxFrom p (xs.drop k) k = if p xs[k] then (k : Int) else idxFrom p (xs.drop (k + 1)) (k + 1) := by
  rw [List.drop_eq_getElem_cons h]; rfl
theorem idxFrom_end {α : Type} (p : α → Bool) (xs : List α) (k : Nat) (h : xs.length ≤ k) : idxFrom p (xs.drop k) k = -1 := by
  rw [List.drop_eq_nil_of_le h]; rfl
theorem idxFrom_any' {α : Type} (p : α → Bool) : ∀ (xs : List α) (k : Nat), decide (0 ≤ idxFrom p xs k) = xs.any p
  | [], k => rfl
  | x :: xs, k => by
    simp only [idxFrom, List.any_cons]
    by_cases e : p x = true
    · simp [e]
    · simp only [e, Bool.false_eq_true, if_false, Bool.false_or]; exact idxFrom_any' p xs (k + 1)
theorem idxFrom_any {α : Type} (p : α → Bool) (xs : List α) : decide (0 ≤ idxFrom p xs 0) = xs.any p := idxFrom_any' p xs 0
theorem all_drop {α : Type} (p : α → Bool) (xs : List α) (k : Nat) (h : k < xs.length) : (xs.drop k).all p = (p xs[k] && (xs.drop (k + 1)).all p) := by
  rw [List.drop_eq_getElem_cons h]; rfl
theorem all_end {α : Type} (p : α → Bool) (xs : List α) (k : Nat) (h : xs.length ≤ k) : (xs.drop k).all p = true := by
  rw [List.drop_eq_nil_of_le h]; rfl
theorem nat0 (k : Nat) : ((k : Int) = 0) = (k = 0) := by simp
theorem natpos (k : Nat) : ((0 : Int) < (k : Int)) = (0 < k) := by simp
theorem toNat_pred (k : Nat) : ((k : Int) - 1).toNat = k - 1 := by omega
/-- All indices from k up, n of them. -/
def allN (p : Nat → Bool) : Nat → Nat → Bool
  | 0, _ => true
  | n + 1, k => p k && allN p n (k + 1)
theorem allN_step (p : Nat → Bool) (n k : Nat) (h : k < n) : allN p (n - k) k = (p k && allN p (n - (k + 1)) (k + 1)) := by
  have : n - k = (n - (k + 1)) + 1 := by omega
  rw [this]; rfl
theorem allN_end (p : Nat → Bool) (n k : Nat) (h : n ≤ k) : allN p (n - k) k = true := by
  have : n - k = 0 := by omega
  rw [this]; rfl
theorem get_old {h l : List Row} {i : Nat} {r : Row} (e : h[i]? = some r) : (h ++ l)[i]? = some r := by
  have := (List.getElem?_eq_some_iff.1 e).1
  rw [List.getElem?_append_left this, e]
theorem pred_nonneg {k : Nat} (h : 0 < k) : (0 ≤ (k : Int) - 1) = True := by
  apply eq_true; omega
theorem decN (p : Prop) [Decidable p] : (!decide p) = decide (¬ p) := by by_cases h : p <;> simp [h]
attribute [go_sem] Ex_condC ExC_true ExC_false Go.undef boundOr asNat Nat.zero_le str_get str_at nat0 natpos toNat_pred wrap_in pred_nonneg
end Go.AW
