/-
  Contracts of functions of this program, over abstract values. Conditions: as each theorem says.
-/
import Derived.Test.YtpahjgcpecmolaaFnTC
namespace Go.Proofs.Ytpahjgcpecmolaa
open Go.AW
set_option linter.unusedVariables false
set_option linter.unusedSimpArgs false
set_option maxRecDepth 4000

def hitT (c : GChange) (g : GTrigger) : Bool := (fitsR (wantS g c) g c).2
def firedL (c : GChange) : List GTrigger → List Int
  | [] => []
  | g :: gs => if hitT c g then g.Id :: firedL c gs else firedL c gs
def firedBy (xs : List GTrigger) (c : GChange) : List Int := if triggersOk xs && changeOk c then firedL c xs else []
theorem firedL_at (c : GChange) (xs : List GTrigger) (k : Nat) (h : k < xs.length) : firedL c (xs.drop k) = if hitT c xs[k] then xs[k].Id :: firedL c (xs.drop (k + 1)) else firedL c (xs.drop (k + 1)) := by
  rw [List.drop_eq_getElem_cons h]; rfl
theorem firedL_end (c : GChange) (xs : List GTrigger) (k : Nat) (h : xs.length ≤ k) : firedL c (xs.drop k) = [] := by
  rw [List.drop_eq_nil_of_le h]; rfl
theorem firedL_len (c : GChange) : ∀ xs : List GTrigger, (firedL c xs).length ≤ xs.length
  | [] => by simp [firedL]
  | g :: gs => by
    have := firedL_len c gs
    simp only [firedL]
    split <;> simp <;> omega
theorem firedBy_no1 {xs : List GTrigger} {c : GChange} (h : triggersOk xs = false) : firedBy xs c = [] := by simp [firedBy, h]
theorem firedBy_no2 {xs : List GTrigger} {c : GChange} (h : changeOk c = false) : firedBy xs c = [] := by simp [firedBy, h]
theorem firedBy_yes {xs : List GTrigger} {c : GChange} (h1 : triggersOk xs = true) (h2 : changeOk c = true) : firedBy xs c = firedL c xs := by simp [firedBy, h1, h2]
theorem sumOf_zero {α : Type} : ∀ xs : List α, sumOf (fun _ => 0) xs = 0
  | [] => rfl
  | x :: xs => by simp only [sumOf, sumOf_zero xs]
theorem firedBy_sz {xs : List GTrigger} {c : GChange} (h : szList GTrigger.sz xs ≤ 1048576) : szList (fun _ : Int => 0) (firedBy xs c) ≤ 1048576 := by
  have h1 := szList_len h
  simp only [szList, sumOf_zero, Nat.add_zero]
  unfold firedBy
  split
  · have := firedL_len c xs; omega
  · simp
theorem ints_snoc (out : List Int) (x : Int) : iCells out ++ [[AV.val (.int .i64 x)]] = iCells (out ++ [x]) := iCells_app out [x]
/-- impl.FiredBy -/
def c_impl_FiredBy : LC :=
  .seq (.ops [⟨some 3, none, .box 33 (.tmp 1)⟩,
    ⟨some 4, none, .mov (.const (.slice none 0 0))⟩])
  (.seq (.seq (.ops [⟨some 10, none, .mov (.tmp 0)⟩,
     ⟨some 11, none, .call 37 [.tmp 10]⟩,
     ⟨some 12, none, .un .not (.tmp 11)⟩,
     ⟨some 13, none, .mov (.tmp 12)⟩,
     ⟨some 14, (some (13, false)), .load (some 4) (.tmp 3)⟩,
     ⟨some 15, (some (13, false)), .call 33 [.tmp 14]⟩,
     ⟨some 16, (some (13, false)), .un .not (.tmp 15)⟩,
     ⟨some 17, none, .pick (.tmp 13) (.const (.bool true)) (.tmp 16)⟩])
   (.cond (.tmp 17)
    (.seq (.ops [⟨some 4, none, .mov (.const (.slice none 0 0))⟩])
     (.ret))
    (.skip)))
  (.seq (.ops [⟨some 18, none, .buildSlice 2 1 (.int .i64 0) 0 []⟩,
    ⟨some 5, none, .mov (.tmp 18)⟩])
  (.seq (.seq (.ops [⟨some 19, none, .mov (.tmp 0)⟩,
     ⟨some 20, none, .lenSl (.tmp 19)⟩,
     ⟨some 21, none, .mov (.const (.int .i64 0))⟩])
   (.block 0 (.loop (.seq (.ops [⟨some 22, none, .bin .lss false (.tmp 21) (.tmp 20)⟩])
     (.seq (.cond (.tmp 22)
       (.skip)
       (.exit 0))
     (.seq (.block 1 (.seq (.ops [⟨some 23, none, .indexAddr 7 (.tmp 19) (.tmp 21)⟩,
         ⟨some 24, none, .load (some 7) (.tmp 23)⟩,
         ⟨some 7, none, .alloc 31 (.agg #[.int .i64 0, .string ⟨#[]⟩, .slice none 0 0, .bool false, .bool false, .string ⟨#[]⟩, .string ⟨#[]⟩])⟩,
         ⟨none, none, .store 7 (.tmp 7) (.tmp 24)⟩])
       (.seq (.ops [⟨some 26, none, .load (some 7) (.tmp 7)⟩,
         ⟨some 27, none, .load (some 4) (.tmp 3)⟩,
         ⟨some 28, none, .call 34 [.tmp 26, .tmp 27]⟩,
         ⟨some 25, none, .mov (.tmp 28)⟩,
         ⟨some 29, none, .extract (.tmp 25) 0⟩,
         ⟨some 30, none, .extract (.tmp 25) 1⟩,
         ⟨some 8, none, .mov (.tmp 29)⟩,
         ⟨some 9, none, .mov (.tmp 30)⟩])
       (.seq (.ops [⟨some 31, none, .mov (.tmp 9)⟩])
       (.cond (.tmp 31)
        (.ops [⟨some 32, none, .mov (.tmp 5)⟩,
          ⟨some 33, none, .fieldAddr 0 (.tmp 7)⟩,
          ⟨some 34, none, .load none (.tmp 33)⟩,
          ⟨some 35, none, .buildSlice 2 1 (.int .i64 0) 1 [(0, .tmp 34)]⟩,
          ⟨some 36, none, .append 2 1 8 (.tmp 32) (.tmp 35)⟩,
          ⟨some 5, none, .mov (.tmp 36)⟩])
        (.skip))))))
     (.ops [⟨some 37, none, .bin .add false (.tmp 21) (.const (.int .i64 1))⟩,
      ⟨some 21, none, .mov (.tmp 37)⟩])))))))
  (.seq (.ops [⟨some 38, none, .mov (.tmp 5)⟩,
    ⟨some 4, none, .mov (.tmp 38)⟩])
  (.ret)))))
def lf_impl_FiredBy : LF := { np := 2, N := 39, body := c_impl_FiredBy, res := [.tmp 4] }
theorem low_impl_FiredBy : LowF Try.prog Try.f21 lf_impl_FiredBy := LowF.mk' (by kernel_rfl) (by kernel_rfl) (by kernel_rfl) (by decide)

/-- spec.FiredBy -/
def c_spec_FiredBy : LC :=
  .seq (.ops [⟨some 3, none, .box 33 (.tmp 1)⟩,
    ⟨some 4, none, .mov (.const (.slice none 0 0))⟩])
  (.seq (.ops [⟨some 9, none, .buildSlice 2 1 (.int .i64 0) 0 []⟩,
    ⟨some 5, none, .mov (.tmp 9)⟩])
  (.seq (.seq (.ops [⟨some 10, none, .mov (.tmp 0)⟩,
     ⟨some 11, none, .call 36 [.tmp 10]⟩,
     ⟨some 12, none, .un .not (.tmp 11)⟩,
     ⟨some 13, none, .mov (.tmp 12)⟩,
     ⟨some 14, (some (13, false)), .load (some 4) (.tmp 3)⟩,
     ⟨some 15, (some (13, false)), .call 29 [.tmp 14]⟩,
     ⟨some 16, (some (13, false)), .un .not (.tmp 15)⟩,
     ⟨some 17, none, .pick (.tmp 13) (.const (.bool true)) (.tmp 16)⟩])
   (.cond (.tmp 17)
    (.seq (.ops [⟨some 18, none, .mov (.tmp 5)⟩,
       ⟨some 4, none, .mov (.tmp 18)⟩])
     (.ret))
    (.skip)))
  (.seq (.seq (.ops [⟨some 6, none, .mov (.const (.int .i64 0))⟩])
   (.block 0 (.loop (.seq (.seq (.ops [⟨some 19, none, .mov (.tmp 6)⟩,
        ⟨some 20, none, .mov (.tmp 0)⟩,
        ⟨some 21, none, .lenSl (.tmp 20)⟩,
        ⟨some 22, none, .bin .lss false (.tmp 19) (.tmp 21)⟩])
      (.cond (.tmp 22)
       (.skip)
       (.exit 0)))
     (.seq (.block 1 (.seq (.dops [⟨some 26, none, .mov (.tmp 0)⟩,
         ⟨some 27, none, .mov (.tmp 6)⟩,
         ⟨some 28, none, .indexAddr 7 (.tmp 26) (.tmp 27)⟩,
         ⟨some 29, none, .load (some 7) (.tmp 28)⟩,
         ⟨some 30, none, .load (some 4) (.tmp 3)⟩,
         ⟨some 31, none, .call 30 [.tmp 29, .tmp 30]⟩,
         ⟨some 25, none, .mov (.tmp 31)⟩,
         ⟨some 32, none, .extract (.tmp 25) 0⟩,
         ⟨some 33, none, .extract (.tmp 25) 1⟩,
         ⟨some 7, none, .mov (.tmp 32)⟩,
         ⟨some 8, none, .mov (.tmp 33)⟩])
       (.seq (.ops [⟨some 34, none, .mov (.tmp 8)⟩])
       (.cond (.tmp 34)
        (.ops [⟨some 35, none, .mov (.tmp 5)⟩,
          ⟨some 36, none, .mov (.tmp 0)⟩,
          ⟨some 37, none, .mov (.tmp 6)⟩,
          ⟨some 38, none, .indexAddr 7 (.tmp 36) (.tmp 37)⟩,
          ⟨some 39, none, .fieldAddr 0 (.tmp 38)⟩,
          ⟨some 40, none, .load none (.tmp 39)⟩,
          ⟨some 41, none, .buildSlice 2 1 (.int .i64 0) 1 [(0, .tmp 40)]⟩,
          ⟨some 42, none, .append 2 1 8 (.tmp 35) (.tmp 41)⟩,
          ⟨some 5, none, .mov (.tmp 42)⟩])
        (.skip)))))
     (.ops [⟨some 23, none, .mov (.tmp 6)⟩,
      ⟨some 24, none, .bin .add false (.tmp 23) (.const (.int .i64 1))⟩,
      ⟨some 6, none, .mov (.tmp 24)⟩]))))))
  (.seq (.ops [⟨some 43, none, .mov (.tmp 5)⟩,
    ⟨some 4, none, .mov (.tmp 43)⟩])
  (.ret)))))
def lf_spec_FiredBy : LF := { np := 2, N := 44, body := c_spec_FiredBy, res := [.tmp 4] }
theorem low_spec_FiredBy : LowF Try.prog Try.f19 lf_spec_FiredBy := LowF.mk' (by kernel_rfl) (by kernel_rfl) (by kernel_rfl) (by decide)

theorem impl_FiredBy_fresh (xs : List GTrigger) (c : GChange) (hx : szList GTrigger.sz xs ≤ 1048576) (hc : GChange.sz c ≤ 1048576) : FreshCall Try.prog 21 [.list 0 7 (xs.map GTrigger.cells), .agg (GChange.cells c)] (.list 0 1 ((firedBy xs c).map cInt)) (fun _ => True) := by
  refine fresh_fn mixed Try.func21 low_impl_FiredBy rfl (fun h0 => ?_)
  have hlen := szList_len hx
  simp (disch := omega) only [lf_impl_FiredBy, c_impl_FiredBy, GChange.cells, go_sem, Nat.reduceEqDiff, Nat.reduceAdd, Nat.reduceLeDiff, reduceCtorEq, Int.reduceLT, Int.reduceLE, Int.reduceNeg, Int.reduceSub, Int.reduceAdd, Int.reduceToNat, ↓reduceIte]
  refine PureCall.call (impl_TriggersOk_ok xs hx _) ?_
  by_cases q1 : triggersOk xs = true
  case neg =>
    have q1' : triggersOk xs = false := by simpa using q1
    simp (disch := omega) only [q1', go_sem, Nat.reduceEqDiff, Nat.reduceAdd, Nat.reduceLeDiff, reduceCtorEq, Int.reduceLT, Int.reduceLE, Int.reduceNeg, Int.reduceSub, Int.reduceAdd, Int.reduceToNat, ↓reduceIte]
    rw [firedBy_no1 q1']
    exact ⟨_, rfl, (FreshB.mknil h0.length h0.length _ 1).fresh⟩
  simp (disch := omega) only [q1, go_sem, Nat.reduceEqDiff, Nat.reduceAdd, Nat.reduceLeDiff, reduceCtorEq, Int.reduceLT, Int.reduceLE, Int.reduceNeg, Int.reduceSub, Int.reduceAdd, Int.reduceToNat, ↓reduceIte]
  refine PureCall.call (impl_ChangeOk_ok c hc _) ?_
  by_cases q2 : changeOk c = true
  case neg =>
    have q2' : changeOk c = false := by simpa using q2
    simp (disch := omega) only [q2', go_sem, Nat.reduceEqDiff, Nat.reduceAdd, Nat.reduceLeDiff, reduceCtorEq, Int.reduceLT, Int.reduceLE, Int.reduceNeg, Int.reduceSub, Int.reduceAdd, Int.reduceToNat, ↓reduceIte]
    rw [firedBy_no2 q2']
    exact ⟨_, rfl, (FreshB.mknil h0.length h0.length _ 1).fresh⟩
  simp (disch := omega) only [q2, go_sem, Nat.reduceEqDiff, Nat.reduceAdd, Nat.reduceLeDiff, reduceCtorEq, Int.reduceLT, Int.reduceLE, Int.reduceNeg, Int.reduceSub, Int.reduceAdd, Int.reduceToNat, ↓reduceIte]
  rw [firedBy_yes q1 q2]
  refine Ex_loop (fun m t h => ∃ (k : Nat) (out : List Int) (rest : List Row), t 3 = .ptr h0.length 1 0 0 ∧ t 19 = .list 0 7 (xs.map GTrigger.cells) ∧ t 20 = .val (.int .i64 xs.length) ∧ t 5 = .own (h0.length + 1) out.length ∧ t 21 = .val (.int .i64 k) ∧ h = h0 ++ (⟨33, 4, [GChange.cells c]⟩ :: ⟨2, 1, iCells out⟩ :: rest) ∧ m = xs.length - k ∧ k ≤ xs.length ∧ out.length ≤ k ∧ firedL c xs = out ++ firedL c (xs.drop k)) xs.length ⟨0, [], [], rfl, rfl, rfl, rfl, rfl, rfl, rfl, Nat.zero_le _, Nat.le_refl _, rfl⟩ ?_
  rintro J hJ m t h ⟨k, out, rest, t3, t19, t20, t5, t21, rfl, rfl, hk, ho, hS⟩
  by_cases hlt : k < xs.length
  · rw [firedL_at _ _ _ hlt] at hS
    have hck := szList_le hx (List.getElem_mem hlt)
    simp (disch := omega) only [t3, t19, t20, t5, t21, hlt, GTrigger.cells, GChange.cells, go_sem, Nat.reduceEqDiff, Nat.reduceAdd, Nat.reduceLeDiff, reduceCtorEq, Int.reduceLT, Int.reduceLE, Int.reduceNeg, Int.reduceSub, Int.reduceAdd, Int.reduceToNat, ↓reduceIte]
    refine impl_Trigger_fits_fresh xs[k] c hck _ _ (fun av hn hf hq => ?_)
    obtain ⟨b, q, rfl⟩ := hq
    have hv := (FB.two (u := .bool (hitT c xs[k])) (r := .list 0 1 ((fitsR (wantI xs[k] c) xs[k] c).1.map cStr)) ⟨(by rw [hitT, ← want_same q2]; exact hf.b), Nat.le_refl _⟩).2
    simp only [AV.val.injEq, Value.bool.injEq] at hv
    subst hv
    clear hf
    by_cases hh : hitT c xs[k] = true
    · rw [if_pos hh] at hS
      simp (disch := omega) only [t3, t19, t20, t5, t21, hlt, hh, iCells_len, GTrigger.cells, GChange.cells, go_sem, Nat.reduceEqDiff, Nat.reduceAdd, Nat.reduceLeDiff, reduceCtorEq, Int.reduceLT, Int.reduceLE, Int.reduceNeg, Int.reduceSub, Int.reduceAdd, Int.reduceToNat, ↓reduceIte]
      refine ⟨by omega, by omega, ?_⟩
      try simp (disch := omega) only [t3, t19, t20, t5, t21, hlt, hh, iCells_len, GTrigger.cells, GChange.cells, go_sem, Nat.reduceEqDiff, Nat.reduceAdd, Nat.reduceLeDiff, reduceCtorEq, Int.reduceLT, Int.reduceLE, Int.reduceNeg, Int.reduceSub, Int.reduceAdd, Int.reduceToNat, ↓reduceIte]
      refine ⟨xs.length - (k + 1), by omega, hJ _ _ _ ⟨k + 1, out ++ [xs[k].Id], _, by simp [upd, t3], by simp [upd, t19], by simp [upd, t20], by simp [upd], by simp [upd], by rw [← ints_snoc]; simp only [GChange.cells, List.cons_append, List.append_assoc, List.nil_append]; rfl, rfl, by omega, by simp; omega, by rw [hS, List.append_assoc]; rfl⟩⟩
    · have hh' : hitT c xs[k] = false := by simpa using hh
      rw [if_neg hh] at hS
      simp (disch := omega) only [t3, t19, t20, t5, t21, hlt, hh', iCells_len, GTrigger.cells, GChange.cells, go_sem, Nat.reduceEqDiff, Nat.reduceAdd, Nat.reduceLeDiff, reduceCtorEq, Int.reduceLT, Int.reduceLE, Int.reduceNeg, Int.reduceSub, Int.reduceAdd, Int.reduceToNat, ↓reduceIte]
      refine ⟨xs.length - (k + 1), by omega, hJ _ _ _ ⟨k + 1, out, _, by simp [upd, t3], by simp [upd, t19], by simp [upd, t20], by simp [upd, t5], by simp [upd], by simp only [GChange.cells, List.cons_append, List.append_assoc, List.nil_append]; rfl, rfl, by omega, by omega, hS⟩⟩
  · rw [firedL_end _ _ _ (by omega), List.append_nil] at hS
    simp (disch := omega) only [t3, t19, t20, t5, t21, hlt, GTrigger.cells, GChange.cells, go_sem, Nat.reduceEqDiff, Nat.reduceAdd, Nat.reduceLeDiff, reduceCtorEq, Int.reduceLT, Int.reduceLE, Int.reduceNeg, Int.reduceSub, Int.reduceAdd, Int.reduceToNat, ↓reduceIte]
    rw [hS]
    exact ⟨_, rfl, Fresh.ofInts (E := 2) (by rw [getAk]; rfl) (by omega)⟩
theorem spec_FiredBy_fresh (xs : List GTrigger) (c : GChange) (hx : szList GTrigger.sz xs ≤ 1048576) (hc : GChange.sz c ≤ 1048576) : FreshCall Try.prog 19 [.list 0 7 (xs.map GTrigger.cells), .agg (GChange.cells c)] (.list 0 1 ((firedBy xs c).map cInt)) (fun _ => True) := by
  refine fresh_fn mixed Try.func19 low_spec_FiredBy rfl (fun h0 => ?_)
  have hlen := szList_len hx
  simp (disch := omega) only [lf_spec_FiredBy, c_spec_FiredBy, GChange.cells, go_sem, Nat.reduceEqDiff, Nat.reduceAdd, Nat.reduceLeDiff, reduceCtorEq, Int.reduceLT, Int.reduceLE, Int.reduceNeg, Int.reduceSub, Int.reduceAdd, Int.reduceToNat, ↓reduceIte]
  refine PureCall.call (spec_TriggersOk_ok xs hx _) ?_
  by_cases q1 : triggersOk xs = true
  case neg =>
    have q1' : triggersOk xs = false := by simpa using q1
    simp (disch := omega) only [q1', go_sem, Nat.reduceEqDiff, Nat.reduceAdd, Nat.reduceLeDiff, reduceCtorEq, Int.reduceLT, Int.reduceLE, Int.reduceNeg, Int.reduceSub, Int.reduceAdd, Int.reduceToNat, ↓reduceIte]
    rw [firedBy_no1 q1']
    exact ⟨_, rfl, Fresh.ofInts (zs := []) (E := 2) (by rw [getAk]; rfl) (by omega)⟩
  simp (disch := omega) only [q1, go_sem, Nat.reduceEqDiff, Nat.reduceAdd, Nat.reduceLeDiff, reduceCtorEq, Int.reduceLT, Int.reduceLE, Int.reduceNeg, Int.reduceSub, Int.reduceAdd, Int.reduceToNat, ↓reduceIte]
  refine PureCall.call (spec_ChangeOk_ok c hc _) ?_
  by_cases q2 : changeOk c = true
  case neg =>
    have q2' : changeOk c = false := by simpa using q2
    simp (disch := omega) only [q2', go_sem, Nat.reduceEqDiff, Nat.reduceAdd, Nat.reduceLeDiff, reduceCtorEq, Int.reduceLT, Int.reduceLE, Int.reduceNeg, Int.reduceSub, Int.reduceAdd, Int.reduceToNat, ↓reduceIte]
    rw [firedBy_no2 q2']
    exact ⟨_, rfl, Fresh.ofInts (zs := []) (E := 2) (by rw [getAk]; rfl) (by omega)⟩
  simp (disch := omega) only [q2, go_sem, Nat.reduceEqDiff, Nat.reduceAdd, Nat.reduceLeDiff, reduceCtorEq, Int.reduceLT, Int.reduceLE, Int.reduceNeg, Int.reduceSub, Int.reduceAdd, Int.reduceToNat, ↓reduceIte]
  rw [firedBy_yes q1 q2]
  refine Ex_loop (fun m t h => ∃ (k : Nat) (out : List Int) (rest : List Row), t 3 = .ptr h0.length 1 0 0 ∧ t 0 = .list 0 7 (xs.map GTrigger.cells) ∧ t 5 = .own (h0.length + 1) out.length ∧ t 6 = .val (.int .i64 k) ∧ h = h0 ++ (⟨33, 4, [GChange.cells c]⟩ :: ⟨2, 1, iCells out⟩ :: rest) ∧ m = xs.length - k ∧ k ≤ xs.length ∧ out.length ≤ k ∧ firedL c xs = out ++ firedL c (xs.drop k)) xs.length ⟨0, [], [], rfl, rfl, rfl, rfl, rfl, rfl, Nat.zero_le _, Nat.le_refl _, rfl⟩ ?_
  rintro J hJ m t h ⟨k, out, rest, t3, t0, t5, t6, rfl, rfl, hk, ho, hS⟩
  by_cases hlt : k < xs.length
  · rw [firedL_at _ _ _ hlt] at hS
    have hck := szList_le hx (List.getElem_mem hlt)
    have hpc : ∀ h, PureCall Try.prog 30 [.agg (GTrigger.cells xs[k]), .agg (GChange.cells c)] h (.tup [.list 0 1 ((fitsR (wantS xs[k] c) xs[k] c).1.map cStr), .val (.bool (hitT c xs[k]))]) := fun h => (spec_l26Match_fresh xs[k] c hck).pure rfl h
    simp (disch := omega) only [t3, t0, t5, t6, hlt, GTrigger.cells, GChange.cells, go_sem, Nat.reduceEqDiff, Nat.reduceAdd, Nat.reduceLeDiff, reduceCtorEq, Int.reduceLT, Int.reduceLE, Int.reduceNeg, Int.reduceSub, Int.reduceAdd, Int.reduceToNat, ↓reduceIte]
    refine PureCall.q (hpc _) ?_
    by_cases hh : hitT c xs[k] = true
    · rw [if_pos hh] at hS
      simp (disch := omega) only [t3, t0, t5, t6, hlt, hh, iCells_len, GTrigger.cells, GChange.cells, go_sem, Nat.reduceEqDiff, Nat.reduceAdd, Nat.reduceLeDiff, reduceCtorEq, Int.reduceLT, Int.reduceLE, Int.reduceNeg, Int.reduceSub, Int.reduceAdd, Int.reduceToNat, ↓reduceIte]
      refine ⟨by omega, by omega, ?_⟩
      try simp (disch := omega) only [t3, t0, t5, t6, hlt, hh, iCells_len, GTrigger.cells, GChange.cells, go_sem, Nat.reduceEqDiff, Nat.reduceAdd, Nat.reduceLeDiff, reduceCtorEq, Int.reduceLT, Int.reduceLE, Int.reduceNeg, Int.reduceSub, Int.reduceAdd, Int.reduceToNat, ↓reduceIte]
      refine ⟨xs.length - (k + 1), by omega, hJ _ _ _ ⟨k + 1, out ++ [xs[k].Id], _, by simp [upd, t3], by simp [upd, t0], by simp [upd], by simp [upd], by rw [← ints_snoc]; simp only [GChange.cells, List.cons_append, List.append_assoc, List.nil_append]; rfl, rfl, by omega, by simp; omega, by rw [hS, List.append_assoc]; rfl⟩⟩
    · have hh' : hitT c xs[k] = false := by simpa using hh
      rw [if_neg hh] at hS
      simp (disch := omega) only [t3, t0, t5, t6, hlt, hh', iCells_len, GTrigger.cells, GChange.cells, go_sem, Nat.reduceEqDiff, Nat.reduceAdd, Nat.reduceLeDiff, reduceCtorEq, Int.reduceLT, Int.reduceLE, Int.reduceNeg, Int.reduceSub, Int.reduceAdd, Int.reduceToNat, ↓reduceIte]
      refine ⟨xs.length - (k + 1), by omega, hJ _ _ _ ⟨k + 1, out, _, by simp [upd, t3], by simp [upd, t0], by simp [upd, t5], by simp [upd], by simp only [GChange.cells, List.cons_append, List.append_assoc, List.nil_append]; rfl, rfl, by omega, by omega, hS⟩⟩
  · rw [firedL_end _ _ _ (by omega), List.append_nil] at hS
    simp (disch := omega) only [t3, t0, t5, t6, hlt, GTrigger.cells, GChange.cells, go_sem, Nat.reduceEqDiff, Nat.reduceAdd, Nat.reduceLeDiff, reduceCtorEq, Int.reduceLT, Int.reduceLE, Int.reduceNeg, Int.reduceSub, Int.reduceAdd, Int.reduceToNat, ↓reduceIte]
    rw [hS]
    exact ⟨_, rfl, Fresh.ofInts (E := 2) (by rw [getAk]; rfl) (by omega)⟩
theorem spec_FiredBy_ok (xs : List GTrigger) (c : GChange) (hx : szList GTrigger.sz xs ≤ 1048576) (hc : GChange.sz c ≤ 1048576) (h : List Row) : PureCall Try.prog 19 [.list 0 7 (xs.map GTrigger.cells), .agg (GChange.cells c)] h (.list 0 1 ((firedBy xs c).map cInt)) := (spec_FiredBy_fresh xs c hx hc).pure rfl h
/-- laws.FnExactFiredBy -/
def c_laws_FnExactFiredBy : LC :=
  .seq (.ops [⟨some 3, none, .box 26 (.tmp 1)⟩,
    ⟨some 4, none, .mov (.const (.bool false))⟩])
  (.seq (.ops [⟨some 5, none, .mov (.const (.int .i64 1048576))⟩])
  (.seq (.ops [⟨some 14, none, .mov (.tmp 0)⟩,
    ⟨some 15, none, .mov (.tmp 5)⟩,
    ⟨some 16, none, .call 18 [.tmp 14, .tmp 15]⟩,
    ⟨some 5, none, .mov (.tmp 16)⟩])
  (.seq (.seq (.ops [⟨some 17, none, .mov (.tmp 5)⟩,
     ⟨some 18, none, .bin .lss false (.tmp 17) (.const (.int .i64 0))⟩])
   (.cond (.tmp 18)
    (.seq (.ops [⟨some 4, none, .mov (.const (.bool true))⟩])
     (.ret))
    (.skip)))
  (.seq (.ops [⟨some 19, none, .load (some 4) (.tmp 3)⟩,
    ⟨some 20, none, .mov (.tmp 5)⟩,
    ⟨some 21, none, .call 6 [.tmp 19, .tmp 20]⟩,
    ⟨some 5, none, .mov (.tmp 21)⟩])
  (.seq (.seq (.ops [⟨some 22, none, .mov (.tmp 5)⟩,
     ⟨some 23, none, .bin .lss false (.tmp 22) (.const (.int .i64 0))⟩])
   (.cond (.tmp 23)
    (.seq (.ops [⟨some 4, none, .mov (.const (.bool true))⟩])
     (.ret))
    (.skip)))
  (.seq (.dops [⟨some 24, none, .mov (.tmp 0)⟩,
    ⟨some 25, none, .call 20 [.tmp 24]⟩,
    ⟨some 26, none, .load (some 4) (.tmp 3)⟩,
    ⟨some 27, none, .call 9 [.tmp 26]⟩,
    ⟨some 28, none, .call 19 [.tmp 25, .tmp 27]⟩,
    ⟨some 6, none, .mov (.tmp 28)⟩])
  (.seq (.ops [⟨some 29, none, .mov (.tmp 0)⟩,
    ⟨some 30, none, .call 20 [.tmp 29]⟩,
    ⟨some 7, none, .mov (.tmp 30)⟩])
  (.seq (.ops [⟨some 31, none, .load (some 4) (.tmp 3)⟩,
    ⟨some 32, none, .call 9 [.tmp 31]⟩,
    ⟨some 8, none, .alloc 33 (.agg #[.int .i64 0, .string ⟨#[]⟩, .slice none 0 0, .string ⟨#[]⟩])⟩,
    ⟨none, none, .store 4 (.tmp 8) (.tmp 32)⟩])
  (.seq (.ops [⟨some 33, none, .mov (.tmp 7)⟩,
    ⟨some 34, none, .load (some 4) (.tmp 8)⟩,
    ⟨some 35, none, .call 21 [.tmp 33, .tmp 34]⟩,
    ⟨some 9, none, .mov (.tmp 35)⟩])
  (.seq (.seq (.ops [⟨some 36, none, .mov (.tmp 9)⟩,
     ⟨some 37, none, .mov (.tmp 6)⟩,
     ⟨some 38, none, .call 22 [.tmp 36, .tmp 37]⟩,
     ⟨some 39, none, .un .not (.tmp 38)⟩])
   (.cond (.tmp 39)
    (.seq (.ops [⟨some 4, none, .mov (.const (.bool false))⟩])
     (.ret))
    (.skip)))
  (.seq (.seq (.ops [⟨some 40, none, .mov (.tmp 7)⟩,
     ⟨some 41, none, .mov (.tmp 0)⟩,
     ⟨some 42, none, .call 20 [.tmp 41]⟩,
     ⟨some 43, none, .call 23 [.tmp 40, .tmp 42]⟩,
     ⟨some 44, none, .un .not (.tmp 43)⟩])
   (.cond (.tmp 44)
    (.seq (.ops [⟨some 4, none, .mov (.const (.bool false))⟩])
     (.ret))
    (.skip)))
  (.seq (.seq (.dops [⟨some 45, none, .load (some 4) (.tmp 8)⟩,
     ⟨some 46, none, .load (some 4) (.tmp 3)⟩,
     ⟨some 47, none, .call 9 [.tmp 46]⟩,
     ⟨some 48, none, .call 13 [.tmp 45, .tmp 47]⟩,
     ⟨some 49, none, .un .not (.tmp 48)⟩])
   (.cond (.tmp 49)
    (.seq (.ops [⟨some 4, none, .mov (.const (.bool false))⟩])
     (.ret))
    (.skip)))
  (.seq (.ops [⟨some 10, none, .mov (.const (.int .i64 1))⟩])
  (.seq (.ops [⟨some 50, none, .mov (.tmp 7)⟩,
    ⟨some 51, none, .mov (.tmp 10)⟩,
    ⟨some 52, none, .call 24 [.tmp 50, .tmp 51]⟩,
    ⟨some 10, none, .mov (.tmp 52)⟩])
  (.seq (.ops [⟨some 53, none, .load (some 4) (.tmp 8)⟩,
    ⟨some 54, none, .mov (.tmp 10)⟩,
    ⟨some 55, none, .call 15 [.tmp 53, .tmp 54]⟩,
    ⟨some 10, none, .mov (.tmp 55)⟩])
  (.seq (.seq (.ops [⟨some 56, none, .mov (.tmp 10)⟩,
     ⟨some 57, none, .bin .lss false (.tmp 56) (.const (.int .i64 0))⟩,
     ⟨some 58, none, .mov (.tmp 57)⟩,
     ⟨some 59, (some (58, false)), .mov (.tmp 9)⟩,
     ⟨some 60, (some (58, false)), .mov (.tmp 6)⟩,
     ⟨some 61, (some (58, false)), .call 22 [.tmp 59, .tmp 60]⟩,
     ⟨some 62, (some (58, false)), .un .not (.tmp 61)⟩,
     ⟨some 63, none, .pick (.tmp 58) (.const (.bool true)) (.tmp 62)⟩])
   (.cond (.tmp 63)
    (.seq (.ops [⟨some 4, none, .mov (.const (.bool false))⟩])
     (.ret))
    (.skip)))
  (.seq (.ops [⟨some 11, none, .mov (.const (.int .i64 1))⟩])
  (.seq (.ops [⟨some 64, none, .mov (.tmp 9)⟩,
    ⟨some 65, none, .mov (.tmp 11)⟩,
    ⟨some 66, none, .call 25 [.tmp 64, .tmp 65]⟩,
    ⟨some 11, none, .mov (.tmp 66)⟩])
  (.seq (.ops [⟨some 12, none, .mov (.const (.int .i64 1))⟩])
  (.seq (.ops [⟨some 67, none, .mov (.tmp 9)⟩,
    ⟨some 68, none, .mov (.tmp 12)⟩,
    ⟨some 69, none, .call 26 [.tmp 67, .tmp 68]⟩,
    ⟨some 12, none, .mov (.tmp 69)⟩])
  (.seq (.seq (.ops [⟨some 70, none, .mov (.tmp 12)⟩,
     ⟨some 71, none, .bin .lss false (.tmp 70) (.const (.int .i64 0))⟩])
   (.cond (.tmp 71)
    (.seq (.ops [⟨some 4, none, .mov (.const (.bool false))⟩])
     (.ret))
    (.skip)))
  (.seq (.seq (.ops [⟨some 72, none, .mov (.tmp 12)⟩,
     ⟨some 73, none, .mov (.tmp 11)⟩,
     ⟨some 74, none, .bin .neq false (.tmp 72) (.tmp 73)⟩])
   (.cond (.tmp 74)
    (.seq (.ops [⟨some 4, none, .mov (.const (.bool false))⟩])
     (.ret))
    (.skip)))
  (.seq (.dops [⟨some 75, none, .mov (.tmp 0)⟩,
    ⟨some 76, none, .call 20 [.tmp 75]⟩,
    ⟨some 77, none, .load (some 4) (.tmp 3)⟩,
    ⟨some 78, none, .call 9 [.tmp 77]⟩,
    ⟨some 79, none, .call 21 [.tmp 76, .tmp 78]⟩,
    ⟨some 13, none, .mov (.tmp 79)⟩])
  (.seq (.seq (.ops [⟨some 80, none, .mov (.tmp 13)⟩,
     ⟨some 81, none, .mov (.tmp 6)⟩,
     ⟨some 82, none, .call 22 [.tmp 80, .tmp 81]⟩,
     ⟨some 83, none, .un .not (.tmp 82)⟩])
   (.cond (.tmp 83)
    (.seq (.ops [⟨some 4, none, .mov (.const (.bool false))⟩])
     (.ret))
    (.skip)))
  (.seq (.ops [⟨some 12, none, .mov (.const (.int .i64 1))⟩])
  (.seq (.ops [⟨some 84, none, .mov (.tmp 9)⟩,
    ⟨some 85, none, .mov (.tmp 12)⟩,
    ⟨some 86, none, .call 26 [.tmp 84, .tmp 85]⟩,
    ⟨some 12, none, .mov (.tmp 86)⟩])
  (.seq (.seq (.ops [⟨some 87, none, .mov (.tmp 12)⟩,
     ⟨some 88, none, .bin .lss false (.tmp 87) (.const (.int .i64 0))⟩])
   (.cond (.tmp 88)
    (.seq (.ops [⟨some 4, none, .mov (.const (.bool false))⟩])
     (.ret))
    (.skip)))
  (.seq (.seq (.ops [⟨some 89, none, .mov (.tmp 12)⟩,
     ⟨some 90, none, .mov (.tmp 11)⟩,
     ⟨some 91, none, .bin .neq false (.tmp 89) (.tmp 90)⟩])
   (.cond (.tmp 91)
    (.seq (.ops [⟨some 4, none, .mov (.const (.bool false))⟩])
     (.ret))
    (.skip)))
  (.seq (.ops [⟨some 4, none, .mov (.const (.bool true))⟩])
  (.ret))))))))))))))))))))))))))))))
def lf_laws_FnExactFiredBy : LF := { np := 2, N := 92, body := c_laws_FnExactFiredBy, res := [.tmp 4] }
theorem low_laws_FnExactFiredBy : LowF Try.prog Try.f4 lf_laws_FnExactFiredBy := LowF.mk' (by kernel_rfl) (by kernel_rfl) (by kernel_rfl) (by decide)

theorem FnExactFiredBy_law (x0 : List GTrigger) (x1 : GChange) (wx0 : (wfList GTrigger.wf) x0) (wx1 : GChange.wf x1) (h : List Row) : PureCall Try.prog 4 [.list 0 7 (x0.map GTrigger.cells), .agg (GChange.cells x1)] h (.val (.bool true)) := by
  refine pure_fn mixed Try.func4 low_laws_FnExactFiredBy rfl rfl ?_ h
  simp (disch := omega) only [lf_laws_FnExactFiredBy, c_laws_FnExactFiredBy, GChange.cells, go_sem, Nat.reduceEqDiff, Nat.reduceAdd, Nat.reduceLeDiff, reduceCtorEq, Int.reduceLT, Int.reduceLE, Int.reduceNeg, Int.reduceSub, Int.reduceAdd, Int.reduceToNat, ↓reduceIte, Ex_cond, wrap_in]
  refine PureCall.call (szTriggerS_ok x0 (1048576) (by omega) (by omega) wx0 _) ?_
  by_cases hn_x0 : ((szList GTrigger.sz) x0 : Int) ≤ 1048576
  case neg =>
    rw [szR_neg (n := (szList GTrigger.sz) x0) (l := 1048576) (by omega)]
    simp (disch := omega) only [Ex_cond, go_sem, Nat.reduceEqDiff, Nat.reduceAdd, Nat.reduceLeDiff, reduceCtorEq, Int.reduceLT, Int.reduceLE, Int.reduceNeg, Int.reduceSub, Int.reduceAdd, Int.reduceToNat, ↓reduceIte, wrap_in]
    exact resolve_val _ _
  rw [szR_pos (n := (szList GTrigger.sz) x0) (l := 1048576) hn_x0]
  simp (disch := omega) only [GChange.cells, Ex_cond, go_sem, Nat.reduceEqDiff, Nat.reduceAdd, Nat.reduceLeDiff, reduceCtorEq, Int.reduceLT, Int.reduceLE, Int.reduceNeg, Int.reduceSub, Int.reduceAdd, Int.reduceToNat, ↓reduceIte, wrap_in]
  refine ⟨fun hn => absurd hn (by omega), fun _ => ?_⟩
  refine PureCall.call (szChange_ok x1 (1048576 - (szList GTrigger.sz) x0) (by omega) (by omega) wx1 _) ?_
  by_cases hn_x1 : (GChange.sz x1 : Int) ≤ 1048576 - (szList GTrigger.sz) x0
  case neg =>
    rw [szR_neg (n := GChange.sz x1) (l := 1048576 - (szList GTrigger.sz) x0) (by omega)]
    simp (disch := omega) only [Ex_cond, go_sem, Nat.reduceEqDiff, Nat.reduceAdd, Nat.reduceLeDiff, reduceCtorEq, Int.reduceLT, Int.reduceLE, Int.reduceNeg, Int.reduceSub, Int.reduceAdd, Int.reduceToNat, ↓reduceIte, wrap_in]
    exact resolve_val _ _
  rw [szR_pos (n := GChange.sz x1) (l := 1048576 - (szList GTrigger.sz) x0) hn_x1]
  simp (disch := omega) only [GChange.cells, Ex_cond, go_sem, Nat.reduceEqDiff, Nat.reduceAdd, Nat.reduceLeDiff, reduceCtorEq, Int.reduceLT, Int.reduceLE, Int.reduceNeg, Int.reduceSub, Int.reduceAdd, Int.reduceToNat, ↓reduceIte, wrap_in]
  refine ⟨fun hn => absurd hn (by omega), fun _ => ?_⟩
  have hbx0 : (szList GTrigger.sz) x0 ≤ 1048576 := by omega
  have hbx1 : GChange.sz x1 ≤ 1048576 := by omega
  have hR : szList (fun _ : Int => 0) (firedBy x0 x1) ≤ 1048576 := firedBy_sz hbx0
  first | refine PureCall.q (toTriggerS_ok x0 (by assumption) _) ?_ | refine PureCall.call (toTriggerS_ok x0 (by assumption) _) ?_
  try simp (disch := omega) only [GChange.cells, go_sem, Nat.reduceEqDiff, Nat.reduceAdd, Nat.reduceLeDiff, reduceCtorEq, Int.reduceLT, Int.reduceLE, Int.reduceNeg, Int.reduceSub, Int.reduceAdd, Int.reduceToNat, ↓reduceIte]
  first | refine PureCall.q (toChange_ok x1 (by assumption) _) ?_ | refine PureCall.call (toChange_ok x1 (by assumption) _) ?_
  try simp (disch := omega) only [GChange.cells, go_sem, Nat.reduceEqDiff, Nat.reduceAdd, Nat.reduceLeDiff, reduceCtorEq, Int.reduceLT, Int.reduceLE, Int.reduceNeg, Int.reduceSub, Int.reduceAdd, Int.reduceToNat, ↓reduceIte]
  first | refine PureCall.q (spec_FiredBy_ok x0 x1 (by assumption) (by assumption) _) ?_ | refine PureCall.call (spec_FiredBy_ok x0 x1 (by assumption) (by assumption) _) ?_
  try simp (disch := omega) only [GChange.cells, go_sem, Nat.reduceEqDiff, Nat.reduceAdd, Nat.reduceLeDiff, reduceCtorEq, Int.reduceLT, Int.reduceLE, Int.reduceNeg, Int.reduceSub, Int.reduceAdd, Int.reduceToNat, ↓reduceIte]
  refine fresh_plain (toTriggerS_fresh x0 (by assumption)) (fun av1 H1 m1 F1 q1 => ?_)
  obtain ⟨l0, rfl⟩ := q1
  have o0_1 := m1.at (i := 0) rfl
  have X0_1 := F1
  have w_o0_1 := fun l => get_old (l := l) o0_1
  try simp (disch := omega) only [o0_1, w_o0_1, GChange.cells, go_sem, Nat.reduceEqDiff, Nat.reduceAdd, Nat.reduceLeDiff, reduceCtorEq, Int.reduceLT, Int.reduceLE, Int.reduceNeg, Int.reduceSub, Int.reduceAdd, Int.reduceToNat, ↓reduceIte]
  refine fresh_plain (toChange_fresh x1 (by assumption)) (fun av2 H2 m2 F2 q2 => ?_)
  obtain ⟨l1_Subs, rfl⟩ := q2
  have o0_2 := m2.at (o0_1)
  have X0_2 := m2.fb (X0_1)
  have X1_2 := F2
  have w_o0_2 := fun l => get_old (l := l) o0_2
  try simp (disch := omega) only [o0_2, w_o0_2, GChange.cells, go_sem, Nat.reduceEqDiff, Nat.reduceAdd, Nat.reduceLeDiff, reduceCtorEq, Int.reduceLT, Int.reduceLE, Int.reduceNeg, Int.reduceSub, Int.reduceAdd, Int.reduceToNat, ↓reduceIte]
  refine fresh_step (impl_FiredBy_fresh x0 x1 (by assumption) (by assumption)) (ArgsOwn.cons ((More.row _ _).fb X0_2).arg (ArgsOwn.cons ((More.row _ _).fb X1_2).arg ArgsOwn.nil)) (fun av3 H3 m3 F3 q3 => ?_)
  have o0_3 := m3.at (get_old o0_2)
  have p1_3 := m3.at (new_row _ _)
  have X0_3 := m3.fb ((More.row _ _).fb X0_2)
  have X1_3 := m3.fb ((More.row _ _).fb X1_2)
  have G_3 := F3
  obtain ⟨b, rfl⟩ : ∃ b, b = av3 := ⟨_, rfl⟩
  have w_o0_3 := fun l => get_old (l := l) o0_3
  have w_p1_3 := fun l => get_old (l := l) p1_3
  have len1 := m1.len
  have len2 := m2.len
  have len3 := m3.len
  simp only [List.length_append, List.length_cons, List.length_nil, Nat.zero_add, Nat.reduceAdd] at len1 len2 len3
  try simp (disch := omega) only [o0_3, p1_3, w_o0_3, w_p1_3, GChange.cells, go_sem, Nat.reduceEqDiff, Nat.reduceAdd, Nat.reduceLeDiff, reduceCtorEq, Int.reduceLT, Int.reduceLE, Int.reduceNeg, Int.reduceSub, Int.reduceAdd, Int.reduceToNat, ↓reduceIte]
  refine PureCall.call (PureCall.own (fun h => eqInt64S_ok (firedBy x0 x1) hR h) (ArgsOwn.cons G_3.arg (ArgsOwn.cons (ArgOwn.same rfl) ArgsOwn.nil))) ?_
  try simp (disch := omega) only [o0_3, p1_3, w_o0_3, w_p1_3, GChange.cells, go_sem, Nat.reduceEqDiff, Nat.reduceAdd, Nat.reduceLeDiff, reduceCtorEq, Int.reduceLT, Int.reduceLE, Int.reduceNeg, Int.reduceSub, Int.reduceAdd, Int.reduceToNat, ↓reduceIte]
  first | refine PureCall.q (toTriggerS_ok x0 (by assumption) _) ?_ | refine PureCall.call (toTriggerS_ok x0 (by assumption) _) ?_
  try simp (disch := omega) only [o0_3, p1_3, w_o0_3, w_p1_3, GChange.cells, go_sem, Nat.reduceEqDiff, Nat.reduceAdd, Nat.reduceLeDiff, reduceCtorEq, Int.reduceLT, Int.reduceLE, Int.reduceNeg, Int.reduceSub, Int.reduceAdd, Int.reduceToNat, ↓reduceIte]
  first | refine PureCall.q (PureCall.own (fun h => eqTriggerS_ok x0 (by assumption) h) (ArgsOwn.cons X0_3.arg (ArgsOwn.cons (ArgOwn.same rfl) ArgsOwn.nil))) ?_ | refine PureCall.call (PureCall.own (fun h => eqTriggerS_ok x0 (by assumption) h) (ArgsOwn.cons X0_3.arg (ArgsOwn.cons (ArgOwn.same rfl) ArgsOwn.nil))) ?_
  try simp (disch := omega) only [o0_3, p1_3, w_o0_3, w_p1_3, GChange.cells, go_sem, Nat.reduceEqDiff, Nat.reduceAdd, Nat.reduceLeDiff, reduceCtorEq, Int.reduceLT, Int.reduceLE, Int.reduceNeg, Int.reduceSub, Int.reduceAdd, Int.reduceToNat, ↓reduceIte]
  first | refine PureCall.q (toChange_ok x1 (by assumption) _) ?_ | refine PureCall.call (toChange_ok x1 (by assumption) _) ?_
  try simp (disch := omega) only [o0_3, p1_3, w_o0_3, w_p1_3, GChange.cells, go_sem, Nat.reduceEqDiff, Nat.reduceAdd, Nat.reduceLeDiff, reduceCtorEq, Int.reduceLT, Int.reduceLE, Int.reduceNeg, Int.reduceSub, Int.reduceAdd, Int.reduceToNat, ↓reduceIte]
  first | refine PureCall.q (PureCall.own (fun h => eqChange_ok x1 (by assumption) h) (ArgsOwn.cons X1_3.arg (ArgsOwn.cons (ArgOwn.same rfl) ArgsOwn.nil))) ?_ | refine PureCall.call (PureCall.own (fun h => eqChange_ok x1 (by assumption) h) (ArgsOwn.cons X1_3.arg (ArgsOwn.cons (ArgOwn.same rfl) ArgsOwn.nil))) ?_
  try simp (disch := omega) only [o0_3, p1_3, w_o0_3, w_p1_3, GChange.cells, go_sem, Nat.reduceEqDiff, Nat.reduceAdd, Nat.reduceLeDiff, reduceCtorEq, Int.reduceLT, Int.reduceLE, Int.reduceNeg, Int.reduceSub, Int.reduceAdd, Int.reduceToNat, ↓reduceIte]
  have hc0 := cnt_TriggerS x0 hbx0
  refine mark_step markTriggerS_mk (es := x0.map GTrigger.cells) X0_3 (shs_TriggerS x0) (by omega) (by omega) (fun H4 g4 rg4 m4 Y4 => ?_)
  have hz0 := mapAcc_cnt (c := cntEl [.int, .str, .list [.str], .bool, .bool, .str, .str]) (fun x _ k => mkEl_cnt (mt := mtext) [.int, .str, .list [.str], .bool, .bool, .str, .str] x k) (xs := x0.map GTrigger.cells) (1)
  have o0_4 := m4.at o0_3 (fun hq => by have := rg4 _ hq; (try simp only [List.length_append, List.length_cons, List.length_nil, Nat.zero_add, Nat.reduceAdd] at this); omega)
  have p1_4 := m4.at p1_3 (fun hq => by have := rg4 _ hq; (try simp only [List.length_append, List.length_cons, List.length_nil, Nat.zero_add, Nat.reduceAdd] at this); omega)
  have X0_4 := Y4
  have X1_4 := m4.fb X1_3 (fun l h1 h2 hq => by have := rg4 _ hq; (try simp only [List.length_append, List.length_cons, List.length_nil, Nat.zero_add, Nat.reduceAdd] at this h1 h2); omega)
  have G_4 := m4.fb G_3 (fun l h1 h2 hq => by have := rg4 _ hq; (try simp only [List.length_append, List.length_cons, List.length_nil, Nat.zero_add, Nat.reduceAdd] at this h1 h2); omega)
  generalize (mapAcc (mkEl mtext [.int, .str, .list [.str], .bool, .bool, .str, .str]) (x0.map GTrigger.cells) (1)).2 = zv4 at hz0 ⊢
  have w_o0_4 := fun l => get_old (l := l) o0_4
  have w_p1_4 := fun l => get_old (l := l) p1_4
  try simp (disch := omega) only [o0_4, p1_4, w_o0_4, w_p1_4, GChange.cells, go_sem, Nat.reduceEqDiff, Nat.reduceAdd, Nat.reduceLeDiff, reduceCtorEq, Int.reduceLT, Int.reduceLE, Int.reduceNeg, Int.reduceSub, Int.reduceAdd, Int.reduceToNat, ↓reduceIte]
  have hc1 := cntTop_GChange x1 hbx1
  refine mark_agg markChange_mk (ds := GChange.cells x1) X1_4 (sh_GChange x1) (by omega) (by omega) (fun H5 g5 rg5 m5 Y5 => ?_)
  have hz1 := mkTop_cnt (mt := mtext) [.int, .str, .list [.str], .str] (GChange.cells x1) (zv4)
  have o0_5 := m5.at o0_4 (fun hq => by have := rg5 _ hq; (try simp only [List.length_append, List.length_cons, List.length_nil, Nat.zero_add, Nat.reduceAdd] at this); omega)
  have p1_5 := m5.at p1_4 (fun hq => by have := rg5 _ hq; (try simp only [List.length_append, List.length_cons, List.length_nil, Nat.zero_add, Nat.reduceAdd] at this); omega)
  have X0_5 := m5.fb X0_4 (fun l h1 h2 hq => by have := rg5 _ hq; (try simp only [List.length_append, List.length_cons, List.length_nil, Nat.zero_add, Nat.reduceAdd] at this h1 h2); omega)
  have X1_5 := Y5
  have G_5 := m5.fb G_4 (fun l h1 h2 hq => by have := rg5 _ hq; (try simp only [List.length_append, List.length_cons, List.length_nil, Nat.zero_add, Nat.reduceAdd] at this h1 h2); omega)
  generalize (mkTop mtext [.int, .str, .list [.str], .str] (GChange.cells x1) (zv4)).2 = zv5 at hz1 ⊢
  have w_o0_5 := fun l => get_old (l := l) o0_5
  have w_p1_5 := fun l => get_old (l := l) p1_5
  try simp (disch := omega) only [o0_5, p1_5, w_o0_5, w_p1_5, GChange.cells, go_sem, Nat.reduceEqDiff, Nat.reduceAdd, Nat.reduceLeDiff, reduceCtorEq, Int.reduceLT, Int.reduceLE, Int.reduceNeg, Int.reduceSub, Int.reduceAdd, Int.reduceToNat, ↓reduceIte]
  have hneg : ¬ (zv5 < 0) := by omega
  try simp (disch := omega) only [o0_5, p1_5, w_o0_5, w_p1_5, hneg, GChange.cells, go_sem, Nat.reduceEqDiff, Nat.reduceAdd, Nat.reduceLeDiff, reduceCtorEq, Int.reduceLT, Int.reduceLE, Int.reduceNeg, Int.reduceSub, Int.reduceAdd, Int.reduceToNat, ↓reduceIte]
  refine PureCall.call (PureCall.own (fun h => eqInt64S_ok (firedBy x0 x1) hR h) (ArgsOwn.cons G_5.arg (ArgsOwn.cons (ArgOwn.same rfl) ArgsOwn.nil))) ?_
  try simp (disch := omega) only [o0_5, p1_5, w_o0_5, w_p1_5, hneg, GChange.cells, go_sem, Nat.reduceEqDiff, Nat.reduceAdd, Nat.reduceLeDiff, reduceCtorEq, Int.reduceLT, Int.reduceLE, Int.reduceNeg, Int.reduceSub, Int.reduceAdd, Int.reduceToNat, ↓reduceIte]
  have hcR := cnt_Int64S (firedBy x0 x1) hR
  have hsR := shs_Int64S (firedBy x0 x1)
  refine mark_step markInt64S_mk (es := (firedBy x0 x1).map cInt) (lo := _) (hi := _) G_5 hsR (by omega) (by omega) (fun H6 g6 rg6 m6 G_6 => ?_)
  have o0_6 := m6.at o0_5 (fun hq => by have := rg6 _ hq; (try simp only [List.length_append, List.length_cons, List.length_nil, Nat.zero_add, Nat.reduceAdd] at this); omega)
  have p1_6 := m6.at p1_5 (fun hq => by have := rg6 _ hq; (try simp only [List.length_append, List.length_cons, List.length_nil, Nat.zero_add, Nat.reduceAdd] at this); omega)
  have w_o0_6 := fun l => get_old (l := l) o0_6
  have w_p1_6 := fun l => get_old (l := l) p1_6
  have hzR := mapAcc_cnt (c := cntEl [.int]) (fun x _ k => mkEl_cnt (mt := mtext) [.int] x k) (xs := (firedBy x0 x1).map cInt) 1
  have hdR : hdAcc (hdEl mtext [.int]) (mapAcc (mkEl mtext [.int]) ((firedBy x0 x1).map cInt) 1).1 1 = (mapAcc (mkEl mtext [.int]) ((firedBy x0 x1).map cInt) 1).2 := hdAcc_mk (fun x _ k => mkEl_cnt [.int] x k) (fun x hx k hk => hdEl_mk [.int] x k (hsR x hx) hk) 1 (by omega)
  have hsM : ∀ e ∈ (mapAcc (mkEl mtext [.int]) ((firedBy x0 x1).map cInt) 1).1, shEl [.int] e := mapAcc_all (mt := mtext) (fun x hx k => mkEl_sh [.int] x k (hsR x hx)) 1
  have hcM : cntAcc (cntEl [.int]) (mapAcc (mkEl mtext [.int]) ((firedBy x0 x1).map cInt) 1).1 = cntAcc (cntEl [.int]) ((firedBy x0 x1).map cInt) := cntAcc_mk hsR
  have hngR : ¬ ((mapAcc (mkEl mtext [.int]) ((firedBy x0 x1).map cInt) 1).2 < 0) := by omega
  try simp (disch := omega) only [o0_6, p1_6, w_o0_6, w_p1_6, GChange.cells, go_sem, Nat.reduceEqDiff, Nat.reduceAdd, Nat.reduceLeDiff, reduceCtorEq, Int.reduceLT, Int.reduceLE, Int.reduceNeg, Int.reduceSub, Int.reduceAdd, Int.reduceToNat, ↓reduceIte]
  refine PureCall.call (PureCall.own (fun h => heldInt64S_hd (mapAcc (mkEl mtext [.int]) ((firedBy x0 x1).map cInt) 1).1 1 hsM (by omega) (by omega) h) (ArgsOwn.cons G_6.arg (ArgsOwn.cons (ArgOwn.same rfl) ArgsOwn.nil))) ?_
  try simp (disch := omega) only [o0_6, p1_6, w_o0_6, w_p1_6, hdR, hngR, GChange.cells, go_sem, Nat.reduceEqDiff, Nat.reduceAdd, Nat.reduceLeDiff, reduceCtorEq, Int.reduceLT, Int.reduceLE, Int.reduceNeg, Int.reduceSub, Int.reduceAdd, Int.reduceToNat, ↓reduceIte]
  first | refine PureCall.q (toTriggerS_ok x0 (by assumption) _) ?_ | refine PureCall.call (toTriggerS_ok x0 (by assumption) _) ?_
  try simp (disch := omega) only [o0_6, p1_6, w_o0_6, w_p1_6, hdR, hngR, GChange.cells, go_sem, Nat.reduceEqDiff, Nat.reduceAdd, Nat.reduceLeDiff, reduceCtorEq, Int.reduceLT, Int.reduceLE, Int.reduceNeg, Int.reduceSub, Int.reduceAdd, Int.reduceToNat, ↓reduceIte]
  first | refine PureCall.q (toChange_ok x1 (by assumption) _) ?_ | refine PureCall.call (toChange_ok x1 (by assumption) _) ?_
  try simp (disch := omega) only [o0_6, p1_6, w_o0_6, w_p1_6, hdR, hngR, GChange.cells, go_sem, Nat.reduceEqDiff, Nat.reduceAdd, Nat.reduceLeDiff, reduceCtorEq, Int.reduceLT, Int.reduceLE, Int.reduceNeg, Int.reduceSub, Int.reduceAdd, Int.reduceToNat, ↓reduceIte]
  first | refine PureCall.q ((impl_FiredBy_fresh x0 x1 (by assumption) (by assumption)).pure rfl _) ?_ | refine PureCall.call ((impl_FiredBy_fresh x0 x1 (by assumption) (by assumption)).pure rfl _) ?_
  try simp (disch := omega) only [o0_6, p1_6, w_o0_6, w_p1_6, hdR, hngR, GChange.cells, go_sem, Nat.reduceEqDiff, Nat.reduceAdd, Nat.reduceLeDiff, reduceCtorEq, Int.reduceLT, Int.reduceLE, Int.reduceNeg, Int.reduceSub, Int.reduceAdd, Int.reduceToNat, ↓reduceIte]
  first | refine PureCall.q (eqInt64S_ok (firedBy x0 x1) hR _) ?_ | refine PureCall.call (eqInt64S_ok (firedBy x0 x1) hR _) ?_
  try simp (disch := omega) only [o0_6, p1_6, w_o0_6, w_p1_6, hdR, hngR, GChange.cells, go_sem, Nat.reduceEqDiff, Nat.reduceAdd, Nat.reduceLeDiff, reduceCtorEq, Int.reduceLT, Int.reduceLE, Int.reduceNeg, Int.reduceSub, Int.reduceAdd, Int.reduceToNat, ↓reduceIte]
  refine PureCall.call (PureCall.own (fun h => heldInt64S_hd (mapAcc (mkEl mtext [.int]) ((firedBy x0 x1).map cInt) 1).1 1 hsM (by omega) (by omega) h) (ArgsOwn.cons G_6.arg (ArgsOwn.cons (ArgOwn.same rfl) ArgsOwn.nil))) ?_
  try simp (disch := omega) only [o0_6, p1_6, w_o0_6, w_p1_6, hdR, hngR, GChange.cells, go_sem, Nat.reduceEqDiff, Nat.reduceAdd, Nat.reduceLeDiff, reduceCtorEq, Int.reduceLT, Int.reduceLE, Int.reduceNeg, Int.reduceSub, Int.reduceAdd, Int.reduceToNat, ↓reduceIte]
  exact resolve_val _ _
end Go.Proofs.Ytpahjgcpecmolaa
