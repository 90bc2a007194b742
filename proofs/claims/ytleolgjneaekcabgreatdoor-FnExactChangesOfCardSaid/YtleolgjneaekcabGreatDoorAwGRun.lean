/-
  AW, part 38: running regions that draw their order and turn memory.
-/
import Derived.Test.YtleolgjneaekcabGreatDoorAwAuto
namespace Go.AW
set_option linter.unusedVariables false
set_option linter.unusedSimpArgs false

structure ExP (P : Program) (N : Nat) (Q : Post) (pre todo : List LI) (chain : List (LI × List LI)) (k : List Fr) (t : Nat → AV) (h : List Row) : Prop where
  out : preWp h todo t fun T => holds T h pre ∧ chWp P chain T h (exK P N Q k .normal)
structure ExCh (P : Program) (N : Nat) (Q : Post) (chain : List (LI × List LI)) (k : List Fr) (t : Nat → AV) (h : List Row) : Prop where
  out : chWp P chain t h (exK P N Q k .normal)
structure AfC (P : Program) (N : Nat) (Q : Post) (d : Option Nat) (loose : List LI) (chain : List (LI × List LI)) (k : List Fr) (t : Nat → AV) (v : AV) (h : List Row) : Prop where
  out : holds (put t d v) h loose ∧ chWp P chain (put t d v) h (exK P N Q k .normal)
structure Hol (T : Nat → AV) (h : List Row) (l : List LI) : Prop where
  out : holds T h l
def evWp (t : Nat → AV) (h : List Row) (K : AV → Prop) (op : LOp) : Prop := match opEval t h op with | some v => K v | none => False
structure AfP (P : Program) (N : Nat) (Q : Post) (pre : List LI) (d : Option Nat) (todo : List LI) (chain : List (LI × List LI)) (k : List Fr) (t : Nat → AV) (h : List Row) (v : AV) : Prop where
  out : preWp h todo (put t d v) fun T => holds T h pre ∧ chWp P chain T h (exK P N Q k .normal)
section
variable {P : Program} {N : Nat} {Q : Post} {k : List Fr} {t : Nat → AV} {h : List Row}
theorem Ex_gops (pre : List LI) (chain : List (LI × List LI)) : Ex P N Q (.gops pre chain) k t h = ExP P N Q pre pre chain k t h := propext ⟨fun q => ⟨q.out⟩, fun q => ⟨q.out⟩⟩
theorem ExP_nil (pre : List LI) (chain : List (LI × List LI)) : ExP P N Q pre [] chain k t h = (Hol t h pre ∧ ExCh P N Q chain k t h) :=
  propext ⟨fun q => ⟨⟨q.out.1⟩, ⟨q.out.2⟩⟩, fun q => ⟨⟨q.1.out, q.2.out⟩⟩⟩
theorem ExP_cons (pre : List LI) (d : Option Nat) (op : LOp) (r : List LI) (chain : List (LI × List LI)) : ExP P N Q pre (⟨d, none, op⟩ :: r) chain k t h = evWp t h (AfP P N Q pre d r chain k t h) op := by
  unfold evWp
  cases hv : opEval t h op with
  | none =>
    refine propext ⟨fun q => ?_, fun q => q.elim⟩
    have := q.out
    unfold preWp at this
    simp only [hv] at this
  | some v =>
    refine propext ⟨fun q => ⟨?_⟩, fun q => ⟨?_⟩⟩
    · have := q.out
      unfold preWp at this
      simp only [hv] at this
      exact this
    · unfold preWp
      simp only [hv]
      exact q.out
theorem AfP_eq (pre : List LI) (d : Option Nat) (r : List LI) (chain : List (LI × List LI)) (v : AV) : AfP P N Q pre d r chain k t h v = ExP P N Q pre r chain k (put t d v) h := propext ⟨fun q => ⟨q.out⟩, fun q => ⟨q.out⟩⟩
theorem Hol_nil : Hol t h [] = True := propext ⟨fun _ => trivial, fun _ => ⟨trivial⟩⟩
theorem Hol_cons (d : Nat) (op : LOp) (r : List LI) : Hol t h (⟨some d, none, op⟩ :: r) = (evWp t h (fun v => v = t d) op ∧ Hol t h r) := by
  refine propext ⟨fun q => ?_, fun q => ⟨?_⟩⟩
  · have := q.out
    unfold holds at this
    refine ⟨?_, ⟨this.2⟩⟩
    unfold evWp
    rw [this.1]
  · unfold holds
    refine ⟨?_, q.2.out⟩
    have := q.1
    unfold evWp at this
    simp only
    split at this
    · rename_i v hv; rw [hv, this]
    · exact this.elim
theorem ExCh_nil : ExCh P N Q [] k t h = ExK P N Q k .normal t h := propext ⟨fun q => ⟨q.out⟩, fun q => ⟨q.out⟩⟩
theorem AfC_fun (d : Option Nat) (loose : List LI) (chain : List (LI × List LI)) : AfC P N Q d loose chain k t = fun v h => holds (put t d v) h loose ∧ chWp P chain (put t d v) h (exK P N Q k .normal) :=
  funext fun _ => funext fun _ => propext ⟨fun q => q.out, fun q => ⟨q⟩⟩
theorem ExCh_cons (d : Option Nat) (op : LOp) (loose : List LI) (r : List (LI × List LI)) : ExCh P N Q ((⟨d, none, op⟩, loose) :: r) k t h = opWp P t h (AfC P N Q d loose r k t) op := by
  rw [AfC_fun]; exact propext ⟨fun q => q.out, fun q => ⟨q⟩⟩
theorem AfC_eq (d : Option Nat) (loose : List LI) (r : List (LI × List LI)) (v : AV) : AfC P N Q d loose r k t v h = (Hol (put t d v) h loose ∧ ExCh P N Q r k (put t d v) h) :=
  propext ⟨fun q => ⟨⟨q.out.1⟩, ⟨q.out.2⟩⟩, fun q => ⟨⟨q.1.out, q.2.out⟩⟩⟩
end
attribute [go_sem] Ex_gops ExP_nil ExP_cons AfP_eq Hol_nil Hol_cons ExCh_nil ExCh_cons AfC_eq evWp
end Go.AW
