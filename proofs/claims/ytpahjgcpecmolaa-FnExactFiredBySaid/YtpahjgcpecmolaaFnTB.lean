/-
  Contracts of functions of this program, over abstract values. Conditions: as each theorem says.
-/
import Derived.Test.YtpahjgcpecmolaaFnTA
namespace Go.Proofs.Ytpahjgcpecmolaa
open Go.AW
set_option linter.unusedVariables false
set_option linter.unusedSimpArgs false
set_option maxRecDepth 4000

def changeOk (c : GChange) : Bool := thing c.Name c.Subs && (decide (c.Kind = 1) && decide ((c.Value.size : Int) ≤ 64) || decide (c.Kind = 2) && decide (c.Value = txt []))
theorem changeOk_kind {c : GChange} (h : changeOk c = true) : c.Kind = 1 ∨ c.Kind = 2 := by
  simp only [changeOk, Bool.and_eq_true, Bool.or_eq_true, decide_eq_true_eq] at h
  rcases h.2 with q | q
  · exact .inl q.1
  · exact .inr q.1
/-- impl.ChangeOk -/
def c_impl_ChangeOk : LC :=
  .seq (.ops [⟨some 1, none, .box 33 (.tmp 0)⟩,
    ⟨some 2, none, .mov (.const (.bool false))⟩])
  (.seq (.seq (.ops [⟨some 3, none, .fieldAddr 1 (.tmp 1)⟩,
     ⟨some 4, none, .load none (.tmp 3)⟩,
     ⟨some 5, none, .fieldAddr 2 (.tmp 1)⟩,
     ⟨some 6, none, .load none (.tmp 5)⟩,
     ⟨some 7, none, .call 47 [.tmp 4, .tmp 6]⟩,
     ⟨some 8, none, .un .not (.tmp 7)⟩])
   (.cond (.tmp 8)
    (.seq (.ops [⟨some 2, none, .mov (.const (.bool false))⟩])
     (.ret))
    (.skip)))
  (.seq (.seq (.ops [⟨some 9, none, .fieldAddr 0 (.tmp 1)⟩,
     ⟨some 10, none, .load none (.tmp 9)⟩])
   (.block 0 (.seq (.ops [⟨some 12, none, .bin .eql false (.tmp 10) (.const (.int .i64 1))⟩,
      ⟨some 11, none, .mov (.tmp 12)⟩])
    (.cond (.tmp 11)
     (.seq (.ops [⟨some 13, none, .fieldAddr 3 (.tmp 1)⟩,
        ⟨some 14, none, .load none (.tmp 13)⟩,
        ⟨some 15, none, .lenStr (.tmp 14)⟩,
        ⟨some 16, none, .bin .leq false (.tmp 15) (.const (.int .i64 64))⟩,
        ⟨some 2, none, .mov (.tmp 16)⟩])
      (.ret))
     (.seq (.ops [⟨some 18, none, .bin .eql false (.tmp 10) (.const (.int .i64 2))⟩,
        ⟨some 17, none, .mov (.tmp 18)⟩])
      (.cond (.tmp 17)
       (.seq (.ops [⟨some 19, none, .fieldAddr 3 (.tmp 1)⟩,
          ⟨some 20, none, .load none (.tmp 19)⟩,
          ⟨some 21, none, .bin .eql false (.tmp 20) (.const (.string ⟨#[]⟩))⟩,
          ⟨some 2, none, .mov (.tmp 21)⟩])
        (.ret))
       (.skip)))))))
  (.seq (.ops [⟨some 2, none, .mov (.const (.bool false))⟩])
  (.ret))))
def lf_impl_ChangeOk : LF := { np := 1, N := 22, body := c_impl_ChangeOk, res := [.tmp 2] }
theorem low_impl_ChangeOk : LowF Try.prog Try.f33 lf_impl_ChangeOk := LowF.mk' (by kernel_rfl) (by kernel_rfl) (by kernel_rfl) (by decide)

/-- spec.ChangeOk -/
def c_spec_ChangeOk : LC :=
  .seq (.ops [⟨some 1, none, .box 33 (.tmp 0)⟩,
    ⟨some 2, none, .mov (.const (.bool false))⟩])
  (.seq (.seq (.ops [⟨some 3, none, .fieldAddr 1 (.tmp 1)⟩,
     ⟨some 4, none, .load none (.tmp 3)⟩,
     ⟨some 5, none, .fieldAddr 2 (.tmp 1)⟩,
     ⟨some 6, none, .load none (.tmp 5)⟩,
     ⟨some 7, none, .call 41 [.tmp 4, .tmp 6]⟩,
     ⟨some 8, none, .un .not (.tmp 7)⟩])
   (.cond (.tmp 8)
    (.seq (.ops [⟨some 2, none, .mov (.const (.bool false))⟩])
     (.ret))
    (.skip)))
  (.seq (.ops [⟨some 9, none, .fieldAddr 0 (.tmp 1)⟩,
    ⟨some 10, none, .load none (.tmp 9)⟩,
    ⟨some 11, none, .bin .eql false (.tmp 10) (.const (.int .i64 1))⟩,
    ⟨some 12, none, .mov (.tmp 11)⟩,
    ⟨some 13, (some (12, true)), .fieldAddr 3 (.tmp 1)⟩,
    ⟨some 14, (some (12, true)), .load none (.tmp 13)⟩,
    ⟨some 15, (some (12, true)), .lenStr (.tmp 14)⟩,
    ⟨some 16, (some (12, true)), .bin .leq false (.tmp 15) (.const (.int .i64 64))⟩,
    ⟨some 17, none, .pick (.tmp 12) (.tmp 16) (.const (.bool false))⟩,
    ⟨some 18, none, .mov (.tmp 17)⟩,
    ⟨some 19, (some (18, false)), .fieldAddr 0 (.tmp 1)⟩,
    ⟨some 20, (some (18, false)), .load none (.tmp 19)⟩,
    ⟨some 21, (some (18, false)), .bin .eql false (.tmp 20) (.const (.int .i64 2))⟩,
    ⟨some 22, (some (18, false)), .mov (.tmp 21)⟩,
    ⟨some 23, (some (22, true)), .fieldAddr 3 (.tmp 1)⟩,
    ⟨some 24, (some (22, true)), .load none (.tmp 23)⟩,
    ⟨some 25, (some (22, true)), .bin .eql false (.tmp 24) (.const (.string ⟨#[]⟩))⟩,
    ⟨some 26, (some (18, false)), .pick (.tmp 22) (.tmp 25) (.const (.bool false))⟩,
    ⟨some 27, none, .pick (.tmp 18) (.const (.bool true)) (.tmp 26)⟩,
    ⟨some 2, none, .mov (.tmp 27)⟩])
  (.ret)))
def lf_spec_ChangeOk : LF := { np := 1, N := 28, body := c_spec_ChangeOk, res := [.tmp 2] }
theorem low_spec_ChangeOk : LowF Try.prog Try.f29 lf_spec_ChangeOk := LowF.mk' (by kernel_rfl) (by kernel_rfl) (by kernel_rfl) (by decide)

theorem impl_ChangeOk_ok (x : GChange) (hx : GChange.sz x ≤ 1048576) (h : List Row) : PureCall Try.prog 33 [.agg (GChange.cells x)] h (.val (.bool (changeOk x))) := by
  refine pure_fn mixed Try.func33 low_impl_ChangeOk rfl rfl ?_ h
  have h1 := GChange.sz_Name hx
  have h2 := szList_len (GChange.sz_Subs hx)
  simp (disch := omega) only [lf_impl_ChangeOk, c_impl_ChangeOk, GChange.cells, go_sem, Nat.reduceEqDiff, Nat.reduceAdd, Nat.reduceLeDiff, reduceCtorEq, Int.reduceLT, Int.reduceLE, Int.reduceNeg, Int.reduceSub, Int.reduceAdd, Int.reduceToNat, ↓reduceIte]
  refine PureCall.call (impl_locationOk_ok _ _ h1 h2 _) ?_
  by_cases ht : thing x.Name x.Subs = true
  case neg =>
    have ht' : thing x.Name x.Subs = false := by simpa using ht
    simp (disch := omega) only [ht', go_sem, Nat.reduceEqDiff, Nat.reduceAdd, Nat.reduceLeDiff, reduceCtorEq, Int.reduceLT, Int.reduceLE, Int.reduceNeg, Int.reduceSub, Int.reduceAdd, Int.reduceToNat, ↓reduceIte]
    exact resolve_bool (by simp [changeOk, ht'])
  by_cases k1 : x.Kind = 1
  · simp (disch := omega) only [ht, k1, go_sem, Nat.reduceEqDiff, Nat.reduceAdd, Nat.reduceLeDiff, reduceCtorEq, Int.reduceLT, Int.reduceLE, Int.reduceNeg, Int.reduceSub, Int.reduceAdd, Int.reduceToNat, ↓reduceIte]
    exact resolve_bool (by simp [changeOk, ht, k1])
  · by_cases k2 : x.Kind = 2
    · simp (disch := omega) only [ht, k1, k2, go_sem, Nat.reduceEqDiff, Nat.reduceAdd, Nat.reduceLeDiff, reduceCtorEq, Int.reduceLT, Int.reduceLE, Int.reduceNeg, Int.reduceSub, Int.reduceAdd, Int.reduceToNat, ↓reduceIte]
      first | (exact resolve_bool (by simp [changeOk, ht, k1, k2])) | (simp (disch := omega) only [ht, k1, k2, Int.reduceEq, go_sem, Nat.reduceEqDiff, Nat.reduceAdd, Nat.reduceLeDiff, reduceCtorEq, Int.reduceLT, Int.reduceLE, Int.reduceNeg, Int.reduceSub, Int.reduceAdd, Int.reduceToNat, ↓reduceIte]; exact resolve_bool (by simp [changeOk, ht, k1, k2]))
    · simp (disch := omega) only [ht, k1, k2, go_sem, Nat.reduceEqDiff, Nat.reduceAdd, Nat.reduceLeDiff, reduceCtorEq, Int.reduceLT, Int.reduceLE, Int.reduceNeg, Int.reduceSub, Int.reduceAdd, Int.reduceToNat, ↓reduceIte]
      exact resolve_bool (by simp [changeOk, ht, k1, k2])
theorem spec_ChangeOk_ok (x : GChange) (hx : GChange.sz x ≤ 1048576) (h : List Row) : PureCall Try.prog 29 [.agg (GChange.cells x)] h (.val (.bool (changeOk x))) := by
  refine pure_fn mixed Try.func29 low_spec_ChangeOk rfl rfl ?_ h
  have h1 := GChange.sz_Name hx
  have h2 := szList_len (GChange.sz_Subs hx)
  simp (disch := omega) only [lf_spec_ChangeOk, c_spec_ChangeOk, GChange.cells, go_sem, Nat.reduceEqDiff, Nat.reduceAdd, Nat.reduceLeDiff, reduceCtorEq, Int.reduceLT, Int.reduceLE, Int.reduceNeg, Int.reduceSub, Int.reduceAdd, Int.reduceToNat, ↓reduceIte]
  repeat' (first
    | exact resolve_val _ _
    | (refine resolve_bool ?_; simp only [changeOk, *, Bool.and_true, Bool.true_and, Bool.and_false, Bool.false_and, Bool.or_true, Bool.true_or, Bool.or_false, Bool.false_or, Bool.not_true, Bool.not_false, decide_true, decide_false, Bool.and_self, Bool.or_self]; done)
    | (refine resolve_bool ?_; simp [changeOk, *]; done)
    | simp (disch := omega) only [go_sem, Nat.reduceEqDiff, Nat.reduceAdd, Nat.reduceLeDiff, reduceCtorEq, Int.reduceLT, Int.reduceLE, Int.reduceNeg, Int.reduceSub, Int.reduceAdd, Int.reduceToNat, ↓reduceIte]
    | (refine PureCall.call (spec_l03Place_ok _ _ h1 h2 _) ?_)
    | (refine PureCall.q (spec_l03Place_ok _ _ h1 h2 _) ?_)
    | (first | (apply ExG_NT; assumption; intro hb; try simp only [hb]) | (apply ExG_NF; assumption; intro hb; try simp only [hb]) | (apply ExG_T; assumption; intro hb; try simp only [hb]) | (apply ExG_F; assumption; intro hb; try simp only [hb]))
    | (first | (apply ExC_NT; assumption; intro hb; try simp only [hb]) | (apply ExC_NF; assumption; intro hb; try simp only [hb]) | (apply ExC_T; assumption; intro hb; try simp only [hb]) | (apply ExC_F; assumption; intro hb; try simp only [hb]))
    | (first | (apply ExH_NT; assumption; intro hb; try simp only [hb]) | (apply ExH_NF; assumption; intro hb; try simp only [hb]) | (apply ExH_T; assumption; intro hb; try simp only [hb]) | (apply ExH_F; assumption; intro hb; try simp only [hb]))
    | ((first | refine ExG_splitN (fun hb => ?_) (fun hb => ?_) | refine ExG_split (fun hb => ?_) (fun hb => ?_) | refine ExC_splitN (fun hb => ?_) (fun hb => ?_) | refine ExC_split (fun hb => ?_) (fun hb => ?_) | refine ExH_splitN (fun hb => ?_) (fun hb => ?_) | refine ExH_split (fun hb => ?_) (fun hb => ?_)) <;> (try simp only [hb]) <;> (first | have hp : _ < _ := of_decide_eq_true hb | have hp : _ ≤ _ := of_decide_eq_true hb | have hp : ¬ (_ < _) := of_decide_eq_false hb | have hp : ¬ (_ ≤ _) := of_decide_eq_false hb | skip)))

/-- The texts that a pattern takes of a place. -/
def matchRun (out : List ByteArray) : List ByteArray → List ByteArray → Option (List ByteArray)
  | g :: gs, c :: cs => if g = star then matchRun (out ++ [c]) gs cs else if g = c then matchRun out gs cs else none
  | _, _ => some out
theorem matchRun_at (out gs cs : List ByteArray) (k : Nat) (h1 : k < gs.length) (h2 : k < cs.length) : matchRun out (gs.drop k) (cs.drop k) = if gs[k] = star then matchRun (out ++ [cs[k]]) (gs.drop (k + 1)) (cs.drop (k + 1)) else if gs[k] = cs[k] then matchRun out (gs.drop (k + 1)) (cs.drop (k + 1)) else none := by
  rw [List.drop_eq_getElem_cons h1, List.drop_eq_getElem_cons h2]; rfl
theorem matchRun_end (out gs cs : List ByteArray) (k : Nat) (h1 : gs.length ≤ k) : matchRun out (gs.drop k) (cs.drop k) = some out := by
  rw [List.drop_eq_nil_of_le h1]; rfl
def fitsR (w : Bool) (g : GTrigger) (c : GChange) : List ByteArray × Bool :=
  if w = true ∧ g.Name = c.Name ∧ g.Subs.length = c.Subs.length then
    match matchRun [] g.Subs c.Subs with
    | some out => (if c.Kind = 1 then out ++ [c.Value] else out, true)
    | none => ([], false)
  else ([], false)
def wantI (g : GTrigger) (c : GChange) : Bool := (g.OnSet && decide (c.Kind = 1)) || (g.OnKill && decide (c.Kind = 2))
def wantS (g : GTrigger) (c : GChange) : Bool := !((decide (c.Kind = 1) && !g.OnSet) || (decide (c.Kind = 2) && !g.OnKill))
theorem want_same {g : GTrigger} {c : GChange} (h : changeOk c = true) : wantI g c = wantS g c := by
  rcases changeOk_kind h with e | e <;> simp [wantI, wantS, e]
theorem fitsR_no {w : Bool} {g : GTrigger} {c : GChange} (h : ¬ (w = true ∧ g.Name = c.Name ∧ g.Subs.length = c.Subs.length)) : fitsR w g c = ([], false) := by rw [fitsR, if_neg h]
theorem fresh_strs {base l : Nat} {H : List Row} {E : Tag} {out : List ByteArray} (hl : H[l]? = some ⟨E, 1, out.map cStr⟩) (hb : base ≤ l) : FreshB base (l + 1) H (.own l out.length) (.list 0 1 (out.map cStr)) :=
  FreshB.mkown (lo := l + 1) (hi := l + 1) (FreshLLB.ofVals _ _ _ _ (by
    intro e he c hc
    obtain ⟨x, _, q⟩ := List.mem_map.1 he; subst q
    simp only [cStr, List.mem_singleton] at hc
    exact ⟨_, hc⟩)) hl (by simp) hb (Nat.lt_succ_self _) (Nat.le_refl _)
theorem fresh_two {lo hi : Nat} {H : List Row} {a r : AV} (h : FreshB lo hi H a r) (hlh : lo ≤ hi) (v : Value) : Fresh lo H (.tup [a, .val v]) (.tup [r, .val v]) :=
  (FreshB.tup (FreshLB.cons h (FreshLB.val v (FreshLB.nil hi hi H)) ⟨hlh, Nat.le_refl _⟩)).fresh
abbrev bothR (p : List ByteArray × Bool) : AV := .tup [.list 0 1 (p.1.map cStr), .val (.bool p.2)]
theorem strs_snoc (out : List ByteArray) (x : ByteArray) : out.map cStr ++ [[AV.val (.string x)]] = (out ++ [x]).map cStr := by simp
/-- (impl.Trigger).fits -/
def c_impl_Trigger_fits : LC :=
  .seq (.ops [⟨some 2, none, .box 31 (.tmp 0)⟩,
    ⟨some 3, none, .box 33 (.tmp 1)⟩,
    ⟨some 4, none, .mov (.const (.slice none 0 0))⟩,
    ⟨some 5, none, .mov (.const (.bool false))⟩])
  (.seq (.ops [⟨some 10, none, .fieldAddr 3 (.tmp 2)⟩,
    ⟨some 11, none, .load none (.tmp 10)⟩,
    ⟨some 12, none, .mov (.tmp 11)⟩,
    ⟨some 13, (some (12, true)), .fieldAddr 0 (.tmp 3)⟩,
    ⟨some 14, (some (12, true)), .load none (.tmp 13)⟩,
    ⟨some 15, (some (12, true)), .bin .eql false (.tmp 14) (.const (.int .i64 1))⟩,
    ⟨some 16, none, .pick (.tmp 12) (.tmp 15) (.const (.bool false))⟩,
    ⟨some 17, none, .mov (.tmp 16)⟩,
    ⟨some 18, (some (17, false)), .fieldAddr 4 (.tmp 2)⟩,
    ⟨some 19, (some (17, false)), .load none (.tmp 18)⟩,
    ⟨some 20, (some (17, false)), .mov (.tmp 19)⟩,
    ⟨some 21, (some (20, true)), .fieldAddr 0 (.tmp 3)⟩,
    ⟨some 22, (some (20, true)), .load none (.tmp 21)⟩,
    ⟨some 23, (some (20, true)), .bin .eql false (.tmp 22) (.const (.int .i64 2))⟩,
    ⟨some 24, (some (17, false)), .pick (.tmp 20) (.tmp 23) (.const (.bool false))⟩,
    ⟨some 25, none, .pick (.tmp 17) (.const (.bool true)) (.tmp 24)⟩,
    ⟨some 6, none, .mov (.tmp 25)⟩])
  (.seq (.seq (.ops [⟨some 26, none, .mov (.tmp 6)⟩,
     ⟨some 27, none, .un .not (.tmp 26)⟩,
     ⟨some 28, none, .mov (.tmp 27)⟩,
     ⟨some 29, (some (28, false)), .fieldAddr 1 (.tmp 2)⟩,
     ⟨some 30, (some (28, false)), .load none (.tmp 29)⟩,
     ⟨some 31, (some (28, false)), .fieldAddr 1 (.tmp 3)⟩,
     ⟨some 32, (some (28, false)), .load none (.tmp 31)⟩,
     ⟨some 33, (some (28, false)), .bin .neq false (.tmp 30) (.tmp 32)⟩,
     ⟨some 34, none, .pick (.tmp 28) (.const (.bool true)) (.tmp 33)⟩,
     ⟨some 35, none, .mov (.tmp 34)⟩,
     ⟨some 36, (some (35, false)), .fieldAddr 2 (.tmp 2)⟩,
     ⟨some 37, (some (35, false)), .load none (.tmp 36)⟩,
     ⟨some 38, (some (35, false)), .lenSl (.tmp 37)⟩,
     ⟨some 39, (some (35, false)), .fieldAddr 2 (.tmp 3)⟩,
     ⟨some 40, (some (35, false)), .load none (.tmp 39)⟩,
     ⟨some 41, (some (35, false)), .lenSl (.tmp 40)⟩,
     ⟨some 42, (some (35, false)), .bin .neq false (.tmp 38) (.tmp 41)⟩,
     ⟨some 43, none, .pick (.tmp 35) (.const (.bool true)) (.tmp 42)⟩])
   (.cond (.tmp 43)
    (.seq (.ops [⟨some 4, none, .mov (.const (.slice none 0 0))⟩,
       ⟨some 5, none, .mov (.const (.bool false))⟩])
     (.ret))
    (.skip)))
  (.seq (.ops [⟨some 44, none, .buildSlice 9 1 (.string ⟨#[]⟩) 0 []⟩,
    ⟨some 7, none, .mov (.tmp 44)⟩])
  (.seq (.seq (.ops [⟨some 45, none, .fieldAddr 2 (.tmp 2)⟩,
     ⟨some 46, none, .load none (.tmp 45)⟩,
     ⟨some 47, none, .lenSl (.tmp 46)⟩,
     ⟨some 48, none, .mov (.const (.int .i64 0))⟩])
   (.block 0 (.loop (.seq (.ops [⟨some 49, none, .bin .lss false (.tmp 48) (.tmp 47)⟩])
     (.seq (.cond (.tmp 49)
       (.skip)
       (.exit 0))
     (.seq (.block 1 (.seq (.ops [⟨some 50, none, .mov (.tmp 48)⟩,
         ⟨some 51, none, .indexAddr 1 (.tmp 46) (.tmp 48)⟩,
         ⟨some 52, none, .load none (.tmp 51)⟩,
         ⟨some 8, none, .mov (.tmp 50)⟩,
         ⟨some 9, none, .mov (.tmp 52)⟩])
       (.seq (.ops [⟨some 53, none, .mov (.tmp 9)⟩])
       (.block 2 (.seq (.ops [⟨some 55, none, .bin .eql false (.tmp 53) (.const (.string ⟨#[42]⟩))⟩,
          ⟨some 54, none, .mov (.tmp 55)⟩])
        (.cond (.tmp 54)
         (.ops [⟨some 56, none, .mov (.tmp 7)⟩,
           ⟨some 57, none, .fieldAddr 2 (.tmp 3)⟩,
           ⟨some 58, none, .load none (.tmp 57)⟩,
           ⟨some 59, none, .mov (.tmp 8)⟩,
           ⟨some 60, none, .indexAddr 1 (.tmp 58) (.tmp 59)⟩,
           ⟨some 61, none, .load none (.tmp 60)⟩,
           ⟨some 62, none, .buildSlice 9 1 (.string ⟨#[]⟩) 1 [(0, .tmp 61)]⟩,
           ⟨some 63, none, .append 9 1 16 (.tmp 56) (.tmp 62)⟩,
           ⟨some 7, none, .mov (.tmp 63)⟩])
         (.seq (.ops [⟨some 65, none, .fieldAddr 2 (.tmp 3)⟩,
            ⟨some 66, none, .load none (.tmp 65)⟩,
            ⟨some 67, none, .mov (.tmp 8)⟩,
            ⟨some 68, none, .indexAddr 1 (.tmp 66) (.tmp 67)⟩,
            ⟨some 69, none, .load none (.tmp 68)⟩,
            ⟨some 70, none, .bin .eql false (.tmp 53) (.tmp 69)⟩,
            ⟨some 64, none, .mov (.tmp 70)⟩])
          (.cond (.tmp 64)
           (.skip)
           (.seq (.ops [⟨some 4, none, .mov (.const (.slice none 0 0))⟩,
              ⟨some 5, none, .mov (.const (.bool false))⟩])
            (.ret))))))))))
     (.ops [⟨some 71, none, .bin .add false (.tmp 48) (.const (.int .i64 1))⟩,
      ⟨some 48, none, .mov (.tmp 71)⟩])))))))
  (.seq (.seq (.ops [⟨some 72, none, .fieldAddr 0 (.tmp 3)⟩,
     ⟨some 73, none, .load none (.tmp 72)⟩,
     ⟨some 74, none, .bin .eql false (.tmp 73) (.const (.int .i64 1))⟩])
   (.cond (.tmp 74)
    (.ops [⟨some 75, none, .mov (.tmp 7)⟩,
      ⟨some 76, none, .fieldAddr 3 (.tmp 3)⟩,
      ⟨some 77, none, .load none (.tmp 76)⟩,
      ⟨some 78, none, .buildSlice 9 1 (.string ⟨#[]⟩) 1 [(0, .tmp 77)]⟩,
      ⟨some 79, none, .append 9 1 16 (.tmp 75) (.tmp 78)⟩,
      ⟨some 7, none, .mov (.tmp 79)⟩])
    (.skip)))
  (.seq (.ops [⟨some 80, none, .mov (.tmp 7)⟩,
    ⟨some 4, none, .mov (.tmp 80)⟩,
    ⟨some 5, none, .mov (.const (.bool true))⟩])
  (.ret)))))))
def lf_impl_Trigger_fits : LF := { np := 2, N := 81, body := c_impl_Trigger_fits, res := [.tmp 4, .tmp 5] }
theorem low_impl_Trigger_fits : LowF Try.prog Try.f34 lf_impl_Trigger_fits := LowF.mk' (by kernel_rfl) (by kernel_rfl) (by kernel_rfl) (by decide)

/-- spec.l26Match -/
def c_spec_l26Match : LC :=
  .seq (.ops [⟨some 2, none, .box 31 (.tmp 0)⟩,
    ⟨some 3, none, .box 33 (.tmp 1)⟩,
    ⟨some 4, none, .mov (.const (.slice none 0 0))⟩,
    ⟨some 5, none, .mov (.const (.bool false))⟩])
  (.seq (.seq (.ops [⟨some 8, none, .fieldAddr 1 (.tmp 2)⟩,
     ⟨some 9, none, .load none (.tmp 8)⟩,
     ⟨some 10, none, .fieldAddr 1 (.tmp 3)⟩,
     ⟨some 11, none, .load none (.tmp 10)⟩,
     ⟨some 12, none, .bin .neq false (.tmp 9) (.tmp 11)⟩,
     ⟨some 13, none, .mov (.tmp 12)⟩,
     ⟨some 14, (some (13, false)), .fieldAddr 2 (.tmp 2)⟩,
     ⟨some 15, (some (13, false)), .load none (.tmp 14)⟩,
     ⟨some 16, (some (13, false)), .lenSl (.tmp 15)⟩,
     ⟨some 17, (some (13, false)), .fieldAddr 2 (.tmp 3)⟩,
     ⟨some 18, (some (13, false)), .load none (.tmp 17)⟩,
     ⟨some 19, (some (13, false)), .lenSl (.tmp 18)⟩,
     ⟨some 20, (some (13, false)), .bin .neq false (.tmp 16) (.tmp 19)⟩,
     ⟨some 21, none, .pick (.tmp 13) (.const (.bool true)) (.tmp 20)⟩,
     ⟨some 22, none, .mov (.tmp 21)⟩,
     ⟨some 23, (some (22, false)), .fieldAddr 0 (.tmp 3)⟩,
     ⟨some 24, (some (22, false)), .load none (.tmp 23)⟩,
     ⟨some 25, (some (22, false)), .bin .eql false (.tmp 24) (.const (.int .i64 1))⟩,
     ⟨some 26, (some (22, false)), .mov (.tmp 25)⟩,
     ⟨some 27, (some (26, true)), .fieldAddr 3 (.tmp 2)⟩,
     ⟨some 28, (some (26, true)), .load none (.tmp 27)⟩,
     ⟨some 29, (some (26, true)), .un .not (.tmp 28)⟩,
     ⟨some 30, (some (22, false)), .pick (.tmp 26) (.tmp 29) (.const (.bool false))⟩,
     ⟨some 31, none, .pick (.tmp 22) (.const (.bool true)) (.tmp 30)⟩,
     ⟨some 32, none, .mov (.tmp 31)⟩,
     ⟨some 33, (some (32, false)), .fieldAddr 0 (.tmp 3)⟩,
     ⟨some 34, (some (32, false)), .load none (.tmp 33)⟩,
     ⟨some 35, (some (32, false)), .bin .eql false (.tmp 34) (.const (.int .i64 2))⟩,
     ⟨some 36, (some (32, false)), .mov (.tmp 35)⟩,
     ⟨some 37, (some (36, true)), .fieldAddr 4 (.tmp 2)⟩,
     ⟨some 38, (some (36, true)), .load none (.tmp 37)⟩,
     ⟨some 39, (some (36, true)), .un .not (.tmp 38)⟩,
     ⟨some 40, (some (32, false)), .pick (.tmp 36) (.tmp 39) (.const (.bool false))⟩,
     ⟨some 41, none, .pick (.tmp 32) (.const (.bool true)) (.tmp 40)⟩])
   (.cond (.tmp 41)
    (.seq (.ops [⟨some 42, none, .buildSlice 9 1 (.string ⟨#[]⟩) 0 []⟩,
       ⟨some 4, none, .mov (.tmp 42)⟩,
       ⟨some 5, none, .mov (.const (.bool false))⟩])
     (.ret))
    (.skip)))
  (.seq (.ops [⟨some 43, none, .buildSlice 9 1 (.string ⟨#[]⟩) 0 []⟩,
    ⟨some 6, none, .mov (.tmp 43)⟩])
  (.seq (.seq (.ops [⟨some 7, none, .mov (.const (.int .i64 0))⟩])
   (.block 0 (.loop (.seq (.seq (.ops [⟨some 44, none, .mov (.tmp 7)⟩,
        ⟨some 45, none, .fieldAddr 2 (.tmp 2)⟩,
        ⟨some 46, none, .load none (.tmp 45)⟩,
        ⟨some 47, none, .lenSl (.tmp 46)⟩,
        ⟨some 48, none, .bin .lss false (.tmp 44) (.tmp 47)⟩])
      (.cond (.tmp 48)
       (.skip)
       (.exit 0)))
     (.seq (.block 1 (.seq (.ops [⟨some 51, none, .fieldAddr 2 (.tmp 2)⟩,
         ⟨some 52, none, .load none (.tmp 51)⟩,
         ⟨some 53, none, .mov (.tmp 7)⟩,
         ⟨some 54, none, .indexAddr 1 (.tmp 52) (.tmp 53)⟩,
         ⟨some 55, none, .load none (.tmp 54)⟩,
         ⟨some 56, none, .bin .eql false (.tmp 55) (.const (.string ⟨#[42]⟩))⟩])
       (.cond (.tmp 56)
        (.ops [⟨some 57, none, .mov (.tmp 6)⟩,
          ⟨some 58, none, .fieldAddr 2 (.tmp 3)⟩,
          ⟨some 59, none, .load none (.tmp 58)⟩,
          ⟨some 60, none, .mov (.tmp 7)⟩,
          ⟨some 61, none, .indexAddr 1 (.tmp 59) (.tmp 60)⟩,
          ⟨some 62, none, .load none (.tmp 61)⟩,
          ⟨some 63, none, .buildSlice 9 1 (.string ⟨#[]⟩) 1 [(0, .tmp 62)]⟩,
          ⟨some 64, none, .append 9 1 16 (.tmp 57) (.tmp 63)⟩,
          ⟨some 6, none, .mov (.tmp 64)⟩])
        (.seq (.dops [⟨some 65, none, .fieldAddr 2 (.tmp 2)⟩,
           ⟨some 66, none, .load none (.tmp 65)⟩,
           ⟨some 67, none, .mov (.tmp 7)⟩,
           ⟨some 68, none, .indexAddr 1 (.tmp 66) (.tmp 67)⟩,
           ⟨some 69, none, .load none (.tmp 68)⟩,
           ⟨some 70, none, .fieldAddr 2 (.tmp 3)⟩,
           ⟨some 71, none, .load none (.tmp 70)⟩,
           ⟨some 72, none, .mov (.tmp 7)⟩,
           ⟨some 73, none, .indexAddr 1 (.tmp 71) (.tmp 72)⟩,
           ⟨some 74, none, .load none (.tmp 73)⟩,
           ⟨some 75, none, .bin .neq false (.tmp 69) (.tmp 74)⟩])
         (.cond (.tmp 75)
          (.seq (.ops [⟨some 76, none, .buildSlice 9 1 (.string ⟨#[]⟩) 0 []⟩,
             ⟨some 4, none, .mov (.tmp 76)⟩,
             ⟨some 5, none, .mov (.const (.bool false))⟩])
           (.ret))
          (.skip))))))
     (.ops [⟨some 49, none, .mov (.tmp 7)⟩,
      ⟨some 50, none, .bin .add false (.tmp 49) (.const (.int .i64 1))⟩,
      ⟨some 7, none, .mov (.tmp 50)⟩]))))))
  (.seq (.seq (.ops [⟨some 77, none, .fieldAddr 0 (.tmp 3)⟩,
     ⟨some 78, none, .load none (.tmp 77)⟩,
     ⟨some 79, none, .bin .eql false (.tmp 78) (.const (.int .i64 1))⟩])
   (.cond (.tmp 79)
    (.ops [⟨some 80, none, .mov (.tmp 6)⟩,
      ⟨some 81, none, .fieldAddr 3 (.tmp 3)⟩,
      ⟨some 82, none, .load none (.tmp 81)⟩,
      ⟨some 83, none, .buildSlice 9 1 (.string ⟨#[]⟩) 1 [(0, .tmp 82)]⟩,
      ⟨some 84, none, .append 9 1 16 (.tmp 80) (.tmp 83)⟩,
      ⟨some 6, none, .mov (.tmp 84)⟩])
    (.skip)))
  (.seq (.ops [⟨some 85, none, .mov (.tmp 6)⟩,
    ⟨some 4, none, .mov (.tmp 85)⟩,
    ⟨some 5, none, .mov (.const (.bool true))⟩])
  (.ret))))))
def lf_spec_l26Match : LF := { np := 2, N := 86, body := c_spec_l26Match, res := [.tmp 4, .tmp 5] }
theorem low_spec_l26Match : LowF Try.prog Try.f30 lf_spec_l26Match := LowF.mk' (by kernel_rfl) (by kernel_rfl) (by kernel_rfl) (by decide)

theorem impl_Trigger_fits_fresh (g : GTrigger) (c : GChange) (hg : GTrigger.sz g ≤ 1048576) : FreshCall Try.prog 34 [.agg (GTrigger.cells g), .agg (GChange.cells c)] (bothR (fitsR (wantI g c) g c)) (fun a => ∃ b q, a = .tup [b, .val (.bool q)]) := by
  refine fresh_fn mixed Try.func34 low_impl_Trigger_fits rfl (fun h0 => ?_)
  have hlen := szList_len (GTrigger.sz_Subs hg)
  simp (disch := omega) only [lf_impl_Trigger_fits, c_impl_Trigger_fits, GTrigger.cells, GChange.cells, go_sem, Nat.reduceEqDiff, Nat.reduceAdd, Nat.reduceLeDiff, reduceCtorEq, Int.reduceLT, Int.reduceLE, Int.reduceNeg, Int.reduceSub, Int.reduceAdd, Int.reduceToNat, ↓reduceIte]
  repeat' (first
    | exact resolve_val _ _
    | (rw [fitsR_no (by rintro ⟨e1, e2, e3⟩; simp_all [wantI]; done)]; exact ⟨_, rfl, fresh_two (FreshB.mknil _ _ _ 1) (Nat.le_refl _) _, _, _, rfl⟩)
    | simp (disch := omega) only [go_sem, Nat.reduceEqDiff, Nat.reduceAdd, Nat.reduceLeDiff, reduceCtorEq, Int.reduceLT, Int.reduceLE, Int.reduceNeg, Int.reduceSub, Int.reduceAdd, Int.reduceToNat, ↓reduceIte]
    | (first | (apply ExG_NT; assumption; intro hb; try simp only [hb]) | (apply ExG_NF; assumption; intro hb; try simp only [hb]) | (apply ExG_T; assumption; intro hb; try simp only [hb]) | (apply ExG_F; assumption; intro hb; try simp only [hb]))
    | (first | (apply ExC_NT; assumption; intro hb; try simp only [hb]) | (apply ExC_NF; assumption; intro hb; try simp only [hb]) | (apply ExC_T; assumption; intro hb; try simp only [hb]) | (apply ExC_F; assumption; intro hb; try simp only [hb]))
    | (first | (apply ExH_NT; assumption; intro hb; try simp only [hb]) | (apply ExH_NF; assumption; intro hb; try simp only [hb]) | (apply ExH_T; assumption; intro hb; try simp only [hb]) | (apply ExH_F; assumption; intro hb; try simp only [hb]))
    | ((first | refine ExG_splitN (fun hb => ?_) (fun hb => ?_) | refine ExG_split (fun hb => ?_) (fun hb => ?_) | refine ExC_splitN (fun hb => ?_) (fun hb => ?_) | refine ExC_split (fun hb => ?_) (fun hb => ?_) | refine ExH_splitN (fun hb => ?_) (fun hb => ?_) | refine ExH_split (fun hb => ?_) (fun hb => ?_)) <;> (try simp only [hb]) <;> (first | have hp : _ < _ := of_decide_eq_true hb | have hp : _ ≤ _ := of_decide_eq_true hb | have hp : ¬ (_ < _) := of_decide_eq_false hb | have hp : ¬ (_ ≤ _) := of_decide_eq_false hb | skip)))
  all_goals
    (
      refine Ex_loop (fun m t h => ∃ (k : Nat) (out : List ByteArray) (rest : List Row) (pb qb : Bool), t 2 = .ptr h0.length 1 0 0 ∧ t 3 = .ptr (h0.length + 1) 1 0 0 ∧ t 46 = .list 0 1 (g.Subs.map cStr) ∧ t 47 = .val (.int .i64 g.Subs.length) ∧  t 7 = .own (h0.length + 2) out.length ∧ t 48 = .val (.int .i64 k) ∧ h = h0 ++ (⟨31, 7, [[.val (.int .i64 g.Id), .val (.string g.Name), .list 0 1 (g.Subs.map cStr), .val (.bool pb), .val (.bool qb), .val (.string g.Routine), .val (.string g.Label)]]⟩ :: ⟨33, 4, [GChange.cells c]⟩ :: ⟨9, 1, out.map cStr⟩ :: rest) ∧ m = g.Subs.length - k ∧ k ≤ g.Subs.length ∧ out.length ≤ k ∧ matchRun [] g.Subs c.Subs = matchRun out (g.Subs.drop k) (c.Subs.drop k)) g.Subs.length ⟨0, [], [], _, _, rfl, rfl, rfl, rfl, rfl, rfl, rfl, rfl, Nat.zero_le _, Nat.le_refl _, rfl⟩ ?_
      have hw : wantI g c = true := by simp_all [wantI]
      have hnm : g.Name = c.Name := by simp_all
      have hsl : g.Subs.length = c.Subs.length := by simp_all; try omega
      have hno : matchRun [] g.Subs c.Subs = none → fitsR (wantI g c) g c = ([], false) := fun e => by rw [fitsR, if_pos ⟨hw, hnm, hsl⟩, e]
      have hyes : ∀ out, matchRun [] g.Subs c.Subs = some out → fitsR (wantI g c) g c = (if c.Kind = 1 then out ++ [c.Value] else out, true) := fun out e => by rw [fitsR, if_pos ⟨hw, hnm, hsl⟩, e]
      rintro J hJ m t h ⟨k, out, rest, pb, qb, t2, t3, u46, u47,  t7, tk, rfl, rfl, hk, ho, hS⟩
      by_cases hlt : k < g.Subs.length
      · have hlt2 : k < c.Subs.length := by omega
        rw [matchRun_at _ _ _ _ hlt hlt2] at hS
        by_cases q1 : g.Subs[k] = star
        · rw [if_pos q1] at hS
          have q1' : (g.Subs[k] = txt [42]) = True := eq_true q1
          simp (disch := omega) only [t2, t3, u46, u47,  t7, tk, hlt, hlt2, q1', GTrigger.cells, GChange.cells, cStr, go_sem, Nat.reduceEqDiff, Nat.reduceAdd, Nat.reduceLeDiff, reduceCtorEq, Int.reduceLT, Int.reduceLE, Int.reduceNeg, Int.reduceSub, Int.reduceAdd, Int.reduceToNat, ↓reduceIte]
          refine ⟨by omega, by omega, ?_⟩
          try simp (disch := omega) only [t2, t3, u46, u47,  t7, tk, hlt, hlt2, q1', GTrigger.cells, GChange.cells, cStr, go_sem, Nat.reduceEqDiff, Nat.reduceAdd, Nat.reduceLeDiff, reduceCtorEq, Int.reduceLT, Int.reduceLE, Int.reduceNeg, Int.reduceSub, Int.reduceAdd, Int.reduceToNat, ↓reduceIte]
          exact ⟨g.Subs.length - (k + 1), by omega, hJ _ _ _ ⟨k + 1, out ++ [c.Subs[k]], rest ++ [⟨9, 1, [[.val (.string c.Subs[k])]]⟩], pb, qb, by simp [upd, t2], by simp [upd, t3], by simp [upd, u46], by simp [upd, u47],  by simp [upd], by simp [upd], by simp [cStr, GTrigger.cells, GChange.cells], rfl, by omega, by simp; omega, hS⟩⟩
        · rw [if_neg q1] at hS
          have q1' : (g.Subs[k] = txt [42]) = False := eq_false q1
          by_cases q2 : g.Subs[k] = c.Subs[k]
          · rw [if_pos q2] at hS
            have q2' : (g.Subs[k] = c.Subs[k]) = True := eq_true q2
            simp (disch := omega) only [t2, t3, u46, u47,  t7, tk, hlt, hlt2, q1', q2', GTrigger.cells, GChange.cells, cStr, go_sem, Nat.reduceEqDiff, Nat.reduceAdd, Nat.reduceLeDiff, reduceCtorEq, Int.reduceLT, Int.reduceLE, Int.reduceNeg, Int.reduceSub, Int.reduceAdd, Int.reduceToNat, ↓reduceIte]
            exact ⟨g.Subs.length - (k + 1), by omega, hJ _ _ _ ⟨k + 1, out, rest, pb, qb, by simp [upd, t2], by simp [upd, t3], by simp [upd, u46], by simp [upd, u47],  by simp [upd, t7], by simp [upd], by simp [cStr, GTrigger.cells, GChange.cells], rfl, by omega, by omega, hS⟩⟩
          · rw [if_neg q2] at hS
            have q2' : (g.Subs[k] = c.Subs[k]) = False := eq_false q2
            simp (disch := omega) only [t2, t3, u46, u47,  t7, tk, hlt, hlt2, q1', q2', GTrigger.cells, GChange.cells, cStr, go_sem, Nat.reduceEqDiff, Nat.reduceAdd, Nat.reduceLeDiff, reduceCtorEq, Int.reduceLT, Int.reduceLE, Int.reduceNeg, Int.reduceSub, Int.reduceAdd, Int.reduceToNat, ↓reduceIte]
            rw [hno hS]
            exact ⟨_, rfl, fresh_two (FreshB.mknil _ _ _ 1) (Nat.le_refl _) _, _, _, rfl⟩
      · rw [matchRun_end _ _ _ _ (by omega)] at hS
        rw [hyes out hS]
        by_cases q3 : c.Kind = 1
        · simp (disch := omega) only [t2, t3, u46, u47,  t7, tk, hlt, q3, GTrigger.cells, GChange.cells, cStr, go_sem, Nat.reduceEqDiff, Nat.reduceAdd, Nat.reduceLeDiff, reduceCtorEq, Int.reduceLT, Int.reduceLE, Int.reduceNeg, Int.reduceSub, Int.reduceAdd, Int.reduceToNat, ↓reduceIte]
          refine ⟨by omega, by omega, ?_⟩
          try simp (disch := omega) only [t2, t3, u46, u47,  t7, tk, hlt, q3, GTrigger.cells, GChange.cells, cStr, go_sem, Nat.reduceEqDiff, Nat.reduceAdd, Nat.reduceLeDiff, reduceCtorEq, Int.reduceLT, Int.reduceLE, Int.reduceNeg, Int.reduceSub, Int.reduceAdd, Int.reduceToNat, ↓reduceIte]
          have hf := fresh_strs (base := h0.length) (l := h0.length + 2) (E := 9) (out := out ++ [c.Value]) (H := h0 ++ (⟨31, 7, [[.val (.int .i64 g.Id), .val (.string g.Name), .list 0 1 (g.Subs.map cStr), .val (.bool pb), .val (.bool qb), .val (.string g.Routine), .val (.string g.Label)]]⟩ :: ⟨33, 4, [GChange.cells c]⟩ :: ⟨9, 1, (out ++ [c.Value]).map cStr⟩ :: (rest ++ [⟨9, 1, [[.val (.string c.Value)]]⟩]))) (by rw [getAk]; rfl) (by omega)
          refine ⟨_, rfl, ?_, _, _, rfl⟩
          have hz := fresh_two hf (by omega) (.bool true)
          simpa [GTrigger.cells, GChange.cells, cStr, q3, bothR] using hz
        · simp (disch := omega) only [t2, t3, u46, u47,  t7, tk, hlt, q3, GTrigger.cells, GChange.cells, cStr, go_sem, Nat.reduceEqDiff, Nat.reduceAdd, Nat.reduceLeDiff, reduceCtorEq, Int.reduceLT, Int.reduceLE, Int.reduceNeg, Int.reduceSub, Int.reduceAdd, Int.reduceToNat, ↓reduceIte]
          have hf := fresh_strs (base := h0.length) (l := h0.length + 2) (E := 9) (out := out) (H := h0 ++ (⟨31, 7, [[.val (.int .i64 g.Id), .val (.string g.Name), .list 0 1 (g.Subs.map cStr), .val (.bool pb), .val (.bool qb), .val (.string g.Routine), .val (.string g.Label)]]⟩ :: ⟨33, 4, [GChange.cells c]⟩ :: ⟨9, 1, out.map cStr⟩ :: rest)) (by rw [getAk]; rfl) (by omega)
          refine ⟨_, rfl, ?_, _, _, rfl⟩
          have hz := fresh_two hf (by omega) (.bool true)
          simpa [GTrigger.cells, GChange.cells, cStr, q3, bothR] using hz)
theorem spec_l26Match_fresh (g : GTrigger) (c : GChange) (hg : GTrigger.sz g ≤ 1048576) : FreshCall Try.prog 30 [.agg (GTrigger.cells g), .agg (GChange.cells c)] (bothR (fitsR (wantS g c) g c)) (fun a => ∃ b q, a = .tup [b, .val (.bool q)]) := by
  refine fresh_fn mixed Try.func30 low_spec_l26Match rfl (fun h0 => ?_)
  have hlen := szList_len (GTrigger.sz_Subs hg)
  simp (disch := omega) only [lf_spec_l26Match, c_spec_l26Match, GTrigger.cells, GChange.cells, go_sem, Nat.reduceEqDiff, Nat.reduceAdd, Nat.reduceLeDiff, reduceCtorEq, Int.reduceLT, Int.reduceLE, Int.reduceNeg, Int.reduceSub, Int.reduceAdd, Int.reduceToNat, ↓reduceIte]
  repeat' (first
    | exact resolve_val _ _
    | (rw [fitsR_no (by rintro ⟨e1, e2, e3⟩; simp_all [wantS]; done)]; exact ⟨_, rfl, fresh_two (fresh_strs (out := []) (E := 9) (by first | (rw [getAk]; rfl) | (rw [getAk]; simp)) (by omega)) (by omega) _, _, _, rfl⟩)
    | simp (disch := omega) only [go_sem, Nat.reduceEqDiff, Nat.reduceAdd, Nat.reduceLeDiff, reduceCtorEq, Int.reduceLT, Int.reduceLE, Int.reduceNeg, Int.reduceSub, Int.reduceAdd, Int.reduceToNat, ↓reduceIte]
    | (first | (apply ExG_NT; assumption; intro hb; try simp only [hb]) | (apply ExG_NF; assumption; intro hb; try simp only [hb]) | (apply ExG_T; assumption; intro hb; try simp only [hb]) | (apply ExG_F; assumption; intro hb; try simp only [hb]))
    | (first | (apply ExC_NT; assumption; intro hb; try simp only [hb]) | (apply ExC_NF; assumption; intro hb; try simp only [hb]) | (apply ExC_T; assumption; intro hb; try simp only [hb]) | (apply ExC_F; assumption; intro hb; try simp only [hb]))
    | (first | (apply ExH_NT; assumption; intro hb; try simp only [hb]) | (apply ExH_NF; assumption; intro hb; try simp only [hb]) | (apply ExH_T; assumption; intro hb; try simp only [hb]) | (apply ExH_F; assumption; intro hb; try simp only [hb]))
    | ((first | refine ExG_splitN (fun hb => ?_) (fun hb => ?_) | refine ExG_split (fun hb => ?_) (fun hb => ?_) | refine ExC_splitN (fun hb => ?_) (fun hb => ?_) | refine ExC_split (fun hb => ?_) (fun hb => ?_) | refine ExH_splitN (fun hb => ?_) (fun hb => ?_) | refine ExH_split (fun hb => ?_) (fun hb => ?_)) <;> (try simp only [hb]) <;> (first | have hp : _ < _ := of_decide_eq_true hb | have hp : _ ≤ _ := of_decide_eq_true hb | have hp : ¬ (_ < _) := of_decide_eq_false hb | have hp : ¬ (_ ≤ _) := of_decide_eq_false hb | skip)))
  all_goals
    (
      refine Ex_loop (fun m t h => ∃ (k : Nat) (out : List ByteArray) (rest : List Row) (pb qb : Bool), t 2 = .ptr h0.length 1 0 0 ∧ t 3 = .ptr (h0.length + 1) 1 0 0 ∧  t 6 = .own (h0.length + 2) out.length ∧ t 7 = .val (.int .i64 k) ∧ h = h0 ++ (⟨31, 7, [[.val (.int .i64 g.Id), .val (.string g.Name), .list 0 1 (g.Subs.map cStr), .val (.bool pb), .val (.bool qb), .val (.string g.Routine), .val (.string g.Label)]]⟩ :: ⟨33, 4, [GChange.cells c]⟩ :: ⟨9, 1, out.map cStr⟩ :: rest) ∧ m = g.Subs.length - k ∧ k ≤ g.Subs.length ∧ out.length ≤ k ∧ matchRun [] g.Subs c.Subs = matchRun out (g.Subs.drop k) (c.Subs.drop k)) g.Subs.length ⟨0, [], [], _, _, rfl, rfl,  rfl, rfl, rfl, rfl, Nat.zero_le _, Nat.le_refl _, rfl⟩ ?_
      have hw : wantS g c = true := by simp_all [wantS]
      have hnm : g.Name = c.Name := by simp_all
      have hsl : g.Subs.length = c.Subs.length := by simp_all; try omega
      have hno : matchRun [] g.Subs c.Subs = none → fitsR (wantS g c) g c = ([], false) := fun e => by rw [fitsR, if_pos ⟨hw, hnm, hsl⟩, e]
      have hyes : ∀ out, matchRun [] g.Subs c.Subs = some out → fitsR (wantS g c) g c = (if c.Kind = 1 then out ++ [c.Value] else out, true) := fun out e => by rw [fitsR, if_pos ⟨hw, hnm, hsl⟩, e]
      rintro J hJ m t h ⟨k, out, rest, pb, qb, t2, t3,  t7, tk, rfl, rfl, hk, ho, hS⟩
      by_cases hlt : k < g.Subs.length
      · have hlt2 : k < c.Subs.length := by omega
        rw [matchRun_at _ _ _ _ hlt hlt2] at hS
        by_cases q1 : g.Subs[k] = star
        · rw [if_pos q1] at hS
          have q1' : (g.Subs[k] = txt [42]) = True := eq_true q1
          simp (disch := omega) only [t2, t3,  t7, tk, hlt, hlt2, q1', GTrigger.cells, GChange.cells, cStr, go_sem, Nat.reduceEqDiff, Nat.reduceAdd, Nat.reduceLeDiff, reduceCtorEq, Int.reduceLT, Int.reduceLE, Int.reduceNeg, Int.reduceSub, Int.reduceAdd, Int.reduceToNat, ↓reduceIte]
          refine ⟨by omega, by omega, ?_⟩
          try simp (disch := omega) only [t2, t3,  t7, tk, hlt, hlt2, q1', GTrigger.cells, GChange.cells, cStr, go_sem, Nat.reduceEqDiff, Nat.reduceAdd, Nat.reduceLeDiff, reduceCtorEq, Int.reduceLT, Int.reduceLE, Int.reduceNeg, Int.reduceSub, Int.reduceAdd, Int.reduceToNat, ↓reduceIte]
          exact ⟨g.Subs.length - (k + 1), by omega, hJ _ _ _ ⟨k + 1, out ++ [c.Subs[k]], rest ++ [⟨9, 1, [[.val (.string c.Subs[k])]]⟩], pb, qb, by simp [upd, t2], by simp [upd, t3],  by simp [upd], by simp [upd], by simp [cStr, GTrigger.cells, GChange.cells], rfl, by omega, by simp; omega, hS⟩⟩
        · rw [if_neg q1] at hS
          have q1' : (g.Subs[k] = txt [42]) = False := eq_false q1
          by_cases q2 : g.Subs[k] = c.Subs[k]
          · rw [if_pos q2] at hS
            have q2' : (g.Subs[k] = c.Subs[k]) = True := eq_true q2
            simp (disch := omega) only [t2, t3,  t7, tk, hlt, hlt2, q1', q2', GTrigger.cells, GChange.cells, cStr, go_sem, Nat.reduceEqDiff, Nat.reduceAdd, Nat.reduceLeDiff, reduceCtorEq, Int.reduceLT, Int.reduceLE, Int.reduceNeg, Int.reduceSub, Int.reduceAdd, Int.reduceToNat, ↓reduceIte]
            exact ⟨g.Subs.length - (k + 1), by omega, hJ _ _ _ ⟨k + 1, out, rest, pb, qb, by simp [upd, t2], by simp [upd, t3],  by simp [upd, t7], by simp [upd], by simp [cStr, GTrigger.cells, GChange.cells], rfl, by omega, by omega, hS⟩⟩
          · rw [if_neg q2] at hS
            have q2' : (g.Subs[k] = c.Subs[k]) = False := eq_false q2
            simp (disch := omega) only [t2, t3,  t7, tk, hlt, hlt2, q1', q2', GTrigger.cells, GChange.cells, cStr, go_sem, Nat.reduceEqDiff, Nat.reduceAdd, Nat.reduceLeDiff, reduceCtorEq, Int.reduceLT, Int.reduceLE, Int.reduceNeg, Int.reduceSub, Int.reduceAdd, Int.reduceToNat, ↓reduceIte]
            rw [hno hS]
            exact ⟨_, rfl, fresh_two (fresh_strs (out := []) (E := 9) (by first | (rw [getAk]; rfl) | (rw [getAk]; simp)) (by omega)) (by omega) _, _, _, rfl⟩
      · rw [matchRun_end _ _ _ _ (by omega)] at hS
        rw [hyes out hS]
        by_cases q3 : c.Kind = 1
        · simp (disch := omega) only [t2, t3,  t7, tk, hlt, q3, GTrigger.cells, GChange.cells, cStr, go_sem, Nat.reduceEqDiff, Nat.reduceAdd, Nat.reduceLeDiff, reduceCtorEq, Int.reduceLT, Int.reduceLE, Int.reduceNeg, Int.reduceSub, Int.reduceAdd, Int.reduceToNat, ↓reduceIte]
          refine ⟨by omega, by omega, ?_⟩
          try simp (disch := omega) only [t2, t3,  t7, tk, hlt, q3, GTrigger.cells, GChange.cells, cStr, go_sem, Nat.reduceEqDiff, Nat.reduceAdd, Nat.reduceLeDiff, reduceCtorEq, Int.reduceLT, Int.reduceLE, Int.reduceNeg, Int.reduceSub, Int.reduceAdd, Int.reduceToNat, ↓reduceIte]
          have hf := fresh_strs (base := h0.length) (l := h0.length + 2) (E := 9) (out := out ++ [c.Value]) (H := h0 ++ (⟨31, 7, [[.val (.int .i64 g.Id), .val (.string g.Name), .list 0 1 (g.Subs.map cStr), .val (.bool pb), .val (.bool qb), .val (.string g.Routine), .val (.string g.Label)]]⟩ :: ⟨33, 4, [GChange.cells c]⟩ :: ⟨9, 1, (out ++ [c.Value]).map cStr⟩ :: (rest ++ [⟨9, 1, [[.val (.string c.Value)]]⟩]))) (by rw [getAk]; rfl) (by omega)
          refine ⟨_, rfl, ?_, _, _, rfl⟩
          have hz := fresh_two hf (by omega) (.bool true)
          simpa [GTrigger.cells, GChange.cells, cStr, q3, bothR] using hz
        · simp (disch := omega) only [t2, t3,  t7, tk, hlt, q3, GTrigger.cells, GChange.cells, cStr, go_sem, Nat.reduceEqDiff, Nat.reduceAdd, Nat.reduceLeDiff, reduceCtorEq, Int.reduceLT, Int.reduceLE, Int.reduceNeg, Int.reduceSub, Int.reduceAdd, Int.reduceToNat, ↓reduceIte]
          have hf := fresh_strs (base := h0.length) (l := h0.length + 2) (E := 9) (out := out) (H := h0 ++ (⟨31, 7, [[.val (.int .i64 g.Id), .val (.string g.Name), .list 0 1 (g.Subs.map cStr), .val (.bool pb), .val (.bool qb), .val (.string g.Routine), .val (.string g.Label)]]⟩ :: ⟨33, 4, [GChange.cells c]⟩ :: ⟨9, 1, out.map cStr⟩ :: rest)) (by rw [getAk]; rfl) (by omega)
          refine ⟨_, rfl, ?_, _, _, rfl⟩
          have hz := fresh_two hf (by omega) (.bool true)
          simpa [GTrigger.cells, GChange.cells, cStr, q3, bothR] using hz)
end Go.Proofs.Ytpahjgcpecmolaa
