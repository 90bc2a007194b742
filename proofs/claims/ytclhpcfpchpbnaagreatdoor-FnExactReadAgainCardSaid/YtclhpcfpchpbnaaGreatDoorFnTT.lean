/-
  Contracts of functions of this program, over abstract values. Conditions: as each theorem says.
-/
import Derived.Test.YtclhpcfpchpbnaaGreatDoorFnTS
namespace Go.Proofs.YtclhpcfpchpbnaaGreatDoor
open Go.AW
set_option linter.unusedVariables false
set_option linter.unusedSimpArgs false
set_option maxRecDepth 4000

theorem collate_dec (a b : List UInt8) : decide (collate a b < 0) = before a b := by
  rw [Bool.eq_iff_iff, decide_eq_true_eq, collate_neg]
def c_impl_Before : LC :=
 .seq (.ops [⟨some 4, none, .mov (.const (.bool false))⟩]) (.seq (.ops [⟨some 5, none, .mov (.tmp 0)⟩, ⟨some 6, none, .mov (.tmp 1)⟩, ⟨some 7, none, .call 220 [.tmp 5, .tmp 6]⟩, ⟨some 8, none, .bin .lss false (.tmp 7)
 (.const (.int .i64 0))⟩, ⟨some 4, none, .mov (.tmp 8)⟩]) (.ret))
def lf_impl_Before : LF := { np := 2, N := 9, body := c_impl_Before, res := [.tmp 4] }
theorem low_impl_Before : LowF Tryz.prog Tryz.f198 lf_impl_Before := LowF.mk' (by kernel_rfl) (by kernel_rfl) (by kernel_rfl) (by decide)

theorem impl_Before_ok (a b : ByteArray) (ha : a.size ≤ 1048576) (hbb : b.size ≤ 1048576) (h : List Row) : PureCall Tryz.prog 198 [.val (.string a), .val (.string b)] h (.val (.bool (before a.data.toList b.data.toList))) := by
  refine pure_fn mixed Tryz.func198 low_impl_Before rfl rfl ?_ h
  simp (disch := omega) only [lf_impl_Before, c_impl_Before, go_sem, Nat.reduceEqDiff, reduceCtorEq, ↓reduceIte]
  repeat' (first
    | exact resolve_val _ _
    | exact resolve_bool (collate_dec _ _)
    | simp (disch := omega) only [go_sem, ↓reduceIte]
    | (refine PureCall.call (impl_collate_ok _ _ ha hbb _) ?_)
    | (refine PureCall.q (impl_collate_ok _ _ ha hbb _) ?_)
    | (first | (apply ExC_NT; assumption; intro hb; try simp only [hb]) | (apply ExC_NF; assumption; intro hb; try simp only [hb]) | (apply ExC_T; assumption; intro hb; try simp only [hb]) | (apply ExC_F; assumption; intro hb; try simp only [hb]))
    | ((first | refine ExC_splitN (fun hb => ?_) (fun hb => ?_) | refine ExC_split (fun hb => ?_) (fun hb => ?_)) <;> (try simp only [hb]) <;> (first | have hp : _ < _ := of_decide_eq_true hb | have hp : _ ≤ _ := of_decide_eq_true hb | have hp : ¬ (_ < _) := of_decide_eq_false hb | have hp : ¬ (_ ≤ _) := of_decide_eq_false hb | skip)))

def ordHit (n : ByteArray) (s : List ByteArray) (a : GNode) : Bool := decide (a.Name = n) && decide (s.length ≤ a.Subs.length) && sameSubs (a.Subs.take (s.length - 1)) (s.take (s.length - 1))
def better (back : Bool) (last best t : ByteArray) : Bool :=
  if back = true then (decide (last = txt []) || before t.data.toList last.data.toList) && (decide (best = txt []) || before best.data.toList t.data.toList)
  else (decide (last = txt []) || before last.data.toList t.data.toList) && (decide (best = txt []) || before t.data.toList best.data.toList)
def stepO (n : ByteArray) (s : List ByteArray) (back : Bool) (last best : ByteArray) (a : GNode) : ByteArray :=
  match a.Subs[s.length - 1]? with
  | some t => if (ordHit n s a && better back last best t) = true then t else best
  | none => best
def orderR (x : GTree) (n : ByteArray) (s : List ByteArray) (back : Bool) : ByteArray := x.Nodes.foldl (stepO n s back (s.getD (s.length - 1) (txt []))) (txt [])
theorem stepO_miss {n : ByteArray} {s : List ByteArray} {back : Bool} {last best : ByteArray} {a : GNode} (h : ordHit n s a = false) : stepO n s back last best a = best := by
  unfold stepO; split <;> simp [h]
theorem stepO_hit {n : ByteArray} {s : List ByteArray} {back : Bool} {last best : ByteArray} {a : GNode} (h : ordHit n s a = true) (hl : s.length - 1 < a.Subs.length) : stepO n s back last best a = if better back last best a.Subs[s.length - 1] = true then a.Subs[s.length - 1] else best := by
  unfold stepO; rw [List.getElem?_eq_getElem hl]; simp only [h, Bool.true_and]
theorem starts_pre {s us : List ByteArray} (h : s.length - 1 ≤ us.length) : starts (s.take (s.length - 1)) us = sameSubs (us.take (s.length - 1)) (s.take (s.length - 1)) := by
  have hl : (s.take (s.length - 1)).length = s.length - 1 := by rw [List.length_take]; omega
  unfold starts sameSubs
  rw [hl, decide_eq_true h, Bool.true_and]
  exact all2_comm _ eqS_comm _ _
def c_impl_Tree_order : LC :=
 .seq (.ops [⟨some 4, none, .box 47 (.tmp 0)⟩, ⟨some 8, none, .mov (.const (.string ⟨#[]⟩))⟩]) (.seq (.ops [⟨some 15, none, .mov (.tmp 2)⟩, ⟨some 16, none, .lenSl (.tmp 15)⟩, ⟨some 9, none, .mov (.tmp 16)⟩, ⟨some 10, none,
 .mov (.const (.string ⟨#[]⟩))⟩]) (.seq (.ops [⟨some 17, none, .mov (.tmp 2)⟩, ⟨some 18, none, .mov (.tmp 9)⟩, ⟨some 19, none, .bin .sub false (.tmp 18) (.const (.int .i64 1))⟩, ⟨some 20, none, .indexAddr 1 (.tmp 17) (.tmp
 19)⟩, ⟨some 21, none, .load none (.tmp 20)⟩, ⟨some 11, none, .mov (.tmp 21)⟩]) (.seq (.seq (.ops [⟨some 22, none, .fieldAddr 0 (.tmp 4)⟩, ⟨some 23, none, .load none (.tmp 22)⟩, ⟨some 24, none, .lenSl (.tmp 23)⟩, ⟨some 25,
 none, .mov (.const (.int .i64 0))⟩]) (.block 0 (.loop (.seq (.ops [⟨some 26, none, .bin .lss false (.tmp 25) (.tmp 24)⟩]) (.seq (.cond (.tmp 26) (.skip) (.exit 0)) (.seq (.block 1 (.seq (.ops [⟨some 27, none, .indexAddr 3
 (.tmp 23) (.tmp 25)⟩, ⟨some 28, none, .load (some 3) (.tmp 27)⟩, ⟨some 13, none, .alloc 137 (.agg #[.string ⟨#[]⟩, .slice none 0 0, .string ⟨#[]⟩])⟩, ⟨none, none, .store 3 (.tmp 13) (.tmp 28)⟩]) (.seq (.seq (.dops [⟨some
 29, none, .fieldAddr 0 (.tmp 13)⟩, ⟨some 30, none, .load none (.tmp 29)⟩, ⟨some 31, none, .mov (.tmp 1)⟩, ⟨some 32, none, .bin .neq false (.tmp 30) (.tmp 31)⟩, ⟨some 33, none, .mov (.tmp 32)⟩, ⟨some 34, (some (33,
 false)), .fieldAddr 1 (.tmp 13)⟩, ⟨some 35, (some (33, false)), .load none (.tmp 34)⟩, ⟨some 36, (some (33, false)), .lenSl (.tmp 35)⟩, ⟨some 37, (some (33, false)), .mov (.tmp 9)⟩, ⟨some 38, (some (33, false)), .bin .lss
 false (.tmp 36) (.tmp 37)⟩, ⟨some 39, none, .pick (.tmp 33) (.const (.bool true)) (.tmp 38)⟩, ⟨some 40, none, .mov (.tmp 39)⟩, ⟨some 41, (some (40, false)), .fieldAddr 1 (.tmp 13)⟩, ⟨some 42, (some (40, false)), .load
 none (.tmp 41)⟩, ⟨some 43, (some (40, false)), .mov (.tmp 9)⟩, ⟨some 44, (some (40, false)), .bin .sub false (.tmp 43) (.const (.int .i64 1))⟩, ⟨some 45, (some (40, false)), .sliceSl 1 (.tmp 42) none (some (.tmp 44))⟩,
 ⟨some 46, (some (40, false)), .mov (.tmp 2)⟩, ⟨some 47, (some (40, false)), .mov (.tmp 9)⟩, ⟨some 48, (some (40, false)), .bin .sub false (.tmp 47) (.const (.int .i64 1))⟩, ⟨some 49, (some (40, false)), .sliceSl 1 (.tmp
 46) none (some (.tmp 48))⟩, ⟨some 50, (some (40, false)), .call 197 [.tmp 45, .tmp 49]⟩, ⟨some 51, (some (40, false)), .un .not (.tmp 50)⟩, ⟨some 52, none, .pick (.tmp 40) (.const (.bool true)) (.tmp 51)⟩]) (.cond (.tmp
 52) (.exit 1) (.skip))) (.seq (.ops [⟨some 53, none, .fieldAddr 1 (.tmp 13)⟩, ⟨some 54, none, .load none (.tmp 53)⟩, ⟨some 55, none, .mov (.tmp 9)⟩, ⟨some 56, none, .bin .sub false (.tmp 55) (.const (.int .i64 1))⟩, ⟨some
 57, none, .indexAddr 1 (.tmp 54) (.tmp 56)⟩, ⟨some 58, none, .load none (.tmp 57)⟩, ⟨some 14, none, .mov (.tmp 58)⟩]) (.seq (.ops [⟨some 59, none, .mov (.tmp 3)⟩]) (.cond (.tmp 59) (.seq (.ops [⟨some 60, none, .mov (.tmp
 11)⟩, ⟨some 61, none, .bin .eql false (.tmp 60) (.const (.string ⟨#[]⟩))⟩, ⟨some 62, none, .mov (.tmp 61)⟩, ⟨some 63, (some (62, false)), .mov (.tmp 14)⟩, ⟨some 64, (some (62, false)), .mov (.tmp 11)⟩, ⟨some 65, (some
 (62, false)), .call 198 [.tmp 63, .tmp 64]⟩, ⟨some 66, none, .pick (.tmp 62) (.const (.bool true)) (.tmp 65)⟩, ⟨some 67, none, .mov (.tmp 66)⟩, ⟨some 68, (some (67, true)), .mov (.tmp 10)⟩, ⟨some 69, (some (67, true)),
 .bin .eql false (.tmp 68) (.const (.string ⟨#[]⟩))⟩, ⟨some 70, (some (67, true)), .mov (.tmp 69)⟩, ⟨some 71, (some (70, false)), .mov (.tmp 10)⟩, ⟨some 72, (some (70, false)), .mov (.tmp 14)⟩, ⟨some 73, (some (70,
 false)), .call 198 [.tmp 71, .tmp 72]⟩, ⟨some 74, (some (67, true)), .pick (.tmp 70) (.const (.bool true)) (.tmp 73)⟩, ⟨some 75, none, .pick (.tmp 67) (.tmp 74) (.const (.bool false))⟩]) (.cond (.tmp 75) (.ops [⟨some 76,
 none, .mov (.tmp 14)⟩, ⟨some 10, none, .mov (.tmp 76)⟩]) (.skip))) (.seq (.ops [⟨some 77, none, .mov (.tmp 11)⟩, ⟨some 78, none, .bin .eql false (.tmp 77) (.const (.string ⟨#[]⟩))⟩, ⟨some 79, none, .mov (.tmp 78)⟩, ⟨some
 80, (some (79, false)), .mov (.tmp 11)⟩, ⟨some 81, (some (79, false)), .mov (.tmp 14)⟩, ⟨some 82, (some (79, false)), .call 198 [.tmp 80, .tmp 81]⟩, ⟨some 83, none, .pick (.tmp 79) (.const (.bool true)) (.tmp 82)⟩, ⟨some
 84, none, .mov (.tmp 83)⟩, ⟨some 85, (some (84, true)), .mov (.tmp 10)⟩, ⟨some 86, (some (84, true)), .bin .eql false (.tmp 85) (.const (.string ⟨#[]⟩))⟩, ⟨some 87, (some (84, true)), .mov (.tmp 86)⟩, ⟨some 88, (some (87,
 false)), .mov (.tmp 14)⟩, ⟨some 89, (some (87, false)), .mov (.tmp 10)⟩, ⟨some 90, (some (87, false)), .call 198 [.tmp 88, .tmp 89]⟩, ⟨some 91, (some (84, true)), .pick (.tmp 87) (.const (.bool true)) (.tmp 90)⟩, ⟨some
 92, none, .pick (.tmp 84) (.tmp 91) (.const (.bool false))⟩]) (.cond (.tmp 92) (.ops [⟨some 93, none, .mov (.tmp 14)⟩, ⟨some 10, none, .mov (.tmp 93)⟩]) (.skip))))))))) (.ops [⟨some 94, none, .bin .add false (.tmp 25)
 (.const (.int .i64 1))⟩, ⟨some 25, none, .mov (.tmp 94)⟩]))))))) (.seq (.ops [⟨some 95, none, .mov (.tmp 10)⟩, ⟨some 8, none, .mov (.tmp 95)⟩]) (.ret)))))
def lf_impl_Tree_order : LF := { np := 4, N := 96, body := c_impl_Tree_order, res := [.tmp 8] }
theorem low_impl_Tree_order : LowF Tryz.prog Tryz.f161 lf_impl_Tree_order := LowF.mk' (by kernel_rfl) (by kernel_rfl) (by kernel_rfl) (by decide)

def c_spec_l03Order : LC :=
 .seq (.ops [⟨some 4, none, .box 47 (.tmp 0)⟩, ⟨some 8, none, .mov (.const (.string ⟨#[]⟩))⟩]) (.seq (.ops [⟨some 15, none, .mov (.tmp 2)⟩, ⟨some 16, none, .lenSl (.tmp 15)⟩, ⟨some 9, none, .mov (.tmp 16)⟩]) (.seq (.ops
 [⟨some 17, none, .mov (.tmp 2)⟩, ⟨some 18, none, .mov (.tmp 9)⟩, ⟨some 19, none, .bin .sub false (.tmp 18) (.const (.int .i64 1))⟩, ⟨some 20, none, .indexAddr 1 (.tmp 17) (.tmp 19)⟩, ⟨some 21, none, .load none (.tmp 20)⟩,
 ⟨some 10, none, .mov (.tmp 21)⟩, ⟨some 11, none, .mov (.const (.string ⟨#[]⟩))⟩]) (.seq (.seq (.ops [⟨some 12, none, .mov (.const (.int .i64 0))⟩]) (.block 0 (.loop (.seq (.seq (.ops [⟨some 22, none, .mov (.tmp 12)⟩,
 ⟨some 23, none, .fieldAddr 0 (.tmp 4)⟩, ⟨some 24, none, .load none (.tmp 23)⟩, ⟨some 25, none, .lenSl (.tmp 24)⟩, ⟨some 26, none, .bin .lss false (.tmp 22) (.tmp 25)⟩]) (.cond (.tmp 26) (.skip) (.exit 0))) (.seq (.block 1
 (.seq (.ops [⟨some 29, none, .fieldAddr 0 (.tmp 4)⟩, ⟨some 30, none, .load none (.tmp 29)⟩, ⟨some 31, none, .mov (.tmp 12)⟩, ⟨some 32, none, .indexAddr 3 (.tmp 30) (.tmp 31)⟩, ⟨some 33, none, .load (some 3) (.tmp 32)⟩,
 ⟨some 13, none, .alloc 137 (.agg #[.string ⟨#[]⟩, .slice none 0 0, .string ⟨#[]⟩])⟩, ⟨none, none, .store 3 (.tmp 13) (.tmp 33)⟩]) (.seq (.seq (.dops [⟨some 34, none, .fieldAddr 0 (.tmp 13)⟩, ⟨some 35, none, .load none
 (.tmp 34)⟩, ⟨some 36, none, .mov (.tmp 1)⟩, ⟨some 37, none, .bin .neq false (.tmp 35) (.tmp 36)⟩, ⟨some 38, none, .mov (.tmp 37)⟩, ⟨some 39, (some (38, false)), .fieldAddr 1 (.tmp 13)⟩, ⟨some 40, (some (38, false)), .load
 none (.tmp 39)⟩, ⟨some 41, (some (38, false)), .lenSl (.tmp 40)⟩, ⟨some 42, (some (38, false)), .mov (.tmp 9)⟩, ⟨some 43, (some (38, false)), .bin .lss false (.tmp 41) (.tmp 42)⟩, ⟨some 44, none, .pick (.tmp 38) (.const
 (.bool true)) (.tmp 43)⟩, ⟨some 45, none, .mov (.tmp 44)⟩, ⟨some 46, (some (45, false)), .fieldAddr 1 (.tmp 13)⟩, ⟨some 47, (some (45, false)), .load none (.tmp 46)⟩, ⟨some 48, (some (45, false)), .mov (.tmp 2)⟩, ⟨some
 49, (some (45, false)), .mov (.tmp 9)⟩, ⟨some 50, (some (45, false)), .bin .sub false (.tmp 49) (.const (.int .i64 1))⟩, ⟨some 51, (some (45, false)), .sliceSl 1 (.tmp 48) none (some (.tmp 50))⟩, ⟨some 52, (some (45,
 false)), .call 216 [.tmp 47, .tmp 51]⟩, ⟨some 53, (some (45, false)), .un .not (.tmp 52)⟩, ⟨some 54, none, .pick (.tmp 45) (.const (.bool true)) (.tmp 53)⟩]) (.cond (.tmp 54) (.exit 1) (.skip))) (.seq (.ops [⟨some 55,
 none, .fieldAddr 1 (.tmp 13)⟩, ⟨some 56, none, .load none (.tmp 55)⟩, ⟨some 57, none, .mov (.tmp 9)⟩, ⟨some 58, none, .bin .sub false (.tmp 57) (.const (.int .i64 1))⟩, ⟨some 59, none, .indexAddr 1 (.tmp 56) (.tmp 58)⟩,
 ⟨some 60, none, .load none (.tmp 59)⟩, ⟨some 14, none, .mov (.tmp 60)⟩]) (.seq (.seq (.ops [⟨some 61, none, .mov (.tmp 3)⟩, ⟨some 62, none, .mov (.tmp 61)⟩, ⟨some 63, (some (62, true)), .mov (.tmp 10)⟩, ⟨some 64, (some
 (62, true)), .bin .eql false (.tmp 63) (.const (.string ⟨#[]⟩))⟩, ⟨some 65, (some (62, true)), .mov (.tmp 64)⟩, ⟨some 66, (some (65, false)), .mov (.tmp 14)⟩, ⟨some 67, (some (65, false)), .mov (.tmp 10)⟩, ⟨some 68, (some
 (65, false)), .call 217 [.tmp 66, .tmp 67]⟩, ⟨some 69, (some (62, true)), .pick (.tmp 65) (.const (.bool true)) (.tmp 68)⟩, ⟨some 70, none, .pick (.tmp 62) (.tmp 69) (.const (.bool false))⟩, ⟨some 71, none, .mov (.tmp
 70)⟩, ⟨some 72, (some (71, true)), .mov (.tmp 11)⟩, ⟨some 73, (some (71, true)), .bin .eql false (.tmp 72) (.const (.string ⟨#[]⟩))⟩, ⟨some 74, (some (71, true)), .mov (.tmp 73)⟩, ⟨some 75, (some (74, false)), .mov (.tmp
 11)⟩, ⟨some 76, (some (74, false)), .mov (.tmp 14)⟩, ⟨some 77, (some (74, false)), .call 217 [.tmp 75, .tmp 76]⟩, ⟨some 78, (some (71, true)), .pick (.tmp 74) (.const (.bool true)) (.tmp 77)⟩, ⟨some 79, none, .pick (.tmp
 71) (.tmp 78) (.const (.bool false))⟩]) (.cond (.tmp 79) (.ops [⟨some 80, none, .mov (.tmp 14)⟩, ⟨some 11, none, .mov (.tmp 80)⟩]) (.skip))) (.seq (.ops [⟨some 81, none, .mov (.tmp 3)⟩, ⟨some 82, none, .un .not (.tmp
 81)⟩, ⟨some 83, none, .mov (.tmp 82)⟩, ⟨some 84, (some (83, true)), .mov (.tmp 10)⟩, ⟨some 85, (some (83, true)), .bin .eql false (.tmp 84) (.const (.string ⟨#[]⟩))⟩, ⟨some 86, (some (83, true)), .mov (.tmp 85)⟩, ⟨some
 87, (some (86, false)), .mov (.tmp 10)⟩, ⟨some 88, (some (86, false)), .mov (.tmp 14)⟩, ⟨some 89, (some (86, false)), .call 217 [.tmp 87, .tmp 88]⟩, ⟨some 90, (some (83, true)), .pick (.tmp 86) (.const (.bool true)) (.tmp
 89)⟩, ⟨some 91, none, .pick (.tmp 83) (.tmp 90) (.const (.bool false))⟩, ⟨some 92, none, .mov (.tmp 91)⟩, ⟨some 93, (some (92, true)), .mov (.tmp 11)⟩, ⟨some 94, (some (92, true)), .bin .eql false (.tmp 93) (.const
 (.string ⟨#[]⟩))⟩, ⟨some 95, (some (92, true)), .mov (.tmp 94)⟩, ⟨some 96, (some (95, false)), .mov (.tmp 14)⟩, ⟨some 97, (some (95, false)), .mov (.tmp 11)⟩, ⟨some 98, (some (95, false)), .call 217 [.tmp 96, .tmp 97]⟩,
 ⟨some 99, (some (92, true)), .pick (.tmp 95) (.const (.bool true)) (.tmp 98)⟩, ⟨some 100, none, .pick (.tmp 92) (.tmp 99) (.const (.bool false))⟩]) (.cond (.tmp 100) (.ops [⟨some 101, none, .mov (.tmp 14)⟩, ⟨some 11,
 none, .mov (.tmp 101)⟩]) (.skip)))))))) (.ops [⟨some 27, none, .mov (.tmp 12)⟩, ⟨some 28, none, .bin .add false (.tmp 27) (.const (.int .i64 1))⟩, ⟨some 12, none, .mov (.tmp 28)⟩])))))) (.seq (.ops [⟨some 102, none, .mov
 (.tmp 11)⟩, ⟨some 8, none, .mov (.tmp 102)⟩]) (.ret)))))
def lf_spec_l03Order : LF := { np := 4, N := 103, body := c_spec_l03Order, res := [.tmp 8] }
theorem low_spec_l03Order : LowF Tryz.prog Tryz.f189 lf_spec_l03Order := LowF.mk' (by kernel_rfl) (by kernel_rfl) (by kernel_rfl) (by decide)

theorem impl_Tree_order_ok (x : GTree) (n : ByteArray) (s : List ByteArray) (back : Bool) (hx : GTree.sz x ≤ 1048576) (hs : szList ByteArray.size s ≤ 1048576) (h0 : 0 < s.length) (h : List Row) : PureCall Tryz.prog 161 [.agg (GTree.cells x), .val (.string n), .list 0 1 (s.map cStr), .val (.bool back)] h (.val (.string (orderR x n s back))) := by
  refine pure_fn mixed Tryz.func161 low_impl_Tree_order rfl rfl ?_ h
  have hz := GTree.sz_Nodes hx
  have hl := szList_len hz
  have hsl := szList_len hs
  have hm : ∀ a ∈ x.Nodes, GNode.sz a ≤ 1048576 := fun a ha => szList_le hz ha
  have hn1 : (s.length : Int) - 1 = ((s.length - 1 : Nat) : Int) := by omega
  have hlast : s.length - 1 < s.length := by omega
  have hlz := szS_mem hs (List.getElem_mem hlast)
  have hO : orderR x n s back = x.Nodes.foldl (stepO n s back s[s.length - 1]) (txt []) := by unfold orderR; rw [List.getD_eq_getElem?_getD, List.getElem?_eq_getElem hlast, Option.getD_some]
  rw [hO]
  simp (disch := omega) only [lf_impl_Tree_order, c_impl_Tree_order, GTree.cells, hn1, wrap_in, cStr, go_sem, Nat.reduceEqDiff, ↓reduceIte]
  refine Ex_loop (fun m t h => ∃ (k : Nat) (best : ByteArray), t 4 = .ptr 0 1 0 0 ∧ t 1 = .val (.string n) ∧ t 2 = .list 0 1 (s.map cStr) ∧ t 3 = .val (.bool back) ∧ t 9 = .val (.int .i64 s.length) ∧ t 11 = .val (.string s[s.length - 1]) ∧ t 10 = .val (.string best) ∧ t 23 = .list 0 3 (x.Nodes.map GNode.cells) ∧ t 24 = .val (.int .i64 x.Nodes.length) ∧ t 25 = .val (.int .i64 k) ∧ h[0]? = some ⟨47, 1, [[.list 0 3 (x.Nodes.map GNode.cells)]]⟩ ∧ m = x.Nodes.length - k ∧ k ≤ x.Nodes.length ∧ best.size ≤ 1048576 ∧ best = (x.Nodes.take k).foldl (stepO n s back s[s.length - 1]) (txt [])) x.Nodes.length ⟨0, txt [], rfl, rfl, rfl, rfl, rfl, rfl, rfl, rfl, rfl, rfl, rfl, rfl, Nat.zero_le _, by simp [txt_size], rfl⟩ ?_
  rintro J hJ m t h ⟨k, best, t4, t1, t2, t3, t9, tL, tB, t23, t24, t25, o0, rfl, hk, hbz, hS⟩
  have w0 := fun l => get_old (l := l) o0
  by_cases hlt : k < x.Nodes.length
  · have hb := hm _ (List.getElem_mem hlt)
    have hbs := szList_len (GNode.sz_Subs hb)
    have hnx : ∀ (t' : Nat → AV) (b' : ByteArray) (h' : List Row), t' 4 = t 4 → t' 1 = t 1 → t' 2 = t 2 → t' 3 = t 3 → t' 9 = t 9 → t' 11 = t 11 → t' 10 = .val (.string b') → t' 23 = t 23 → t' 24 = t 24 → t' 25 = .val (.int .i64 (k + 1 : Nat)) → h'[0]? = h[0]? → b'.size ≤ 1048576 → b' = stepO n s back s[s.length - 1] best x.Nodes[k] → ∃ m, m < x.Nodes.length - k ∧ J m t' h' :=
      fun t' b' h' e4 e1 e2 e3 e9 eL eB e23 e24 e25 e0 ez ec => ⟨x.Nodes.length - (k + 1), by omega, hJ _ _ _ ⟨k + 1, b', e4.trans t4, e1.trans t1, e2.trans t2, e3.trans t3, e9.trans t9, eL.trans tL, eB, e23.trans t23, e24.trans t24, e25, e0.trans o0, rfl, by omega, ez, by rw [ec, fold_at _ _ _ hlt, ← hS]⟩⟩
    have hmiss : ordHit n s x.Nodes[k] = false → ∀ (t' : Nat → AV) (h' : List Row), t' 4 = t 4 → t' 1 = t 1 → t' 2 = t 2 → t' 3 = t 3 → t' 9 = t 9 → t' 11 = t 11 → t' 10 = .val (.string best) → t' 23 = t 23 → t' 24 = t 24 → t' 25 = .val (.int .i64 (k + 1 : Nat)) → h'[0]? = h[0]? → ∃ m, m < x.Nodes.length - k ∧ J m t' h' :=
      fun q t' h' e4 e1 e2 e3 e9 eL eB e23 e24 e25 e0 => hnx t' best h' e4 e1 e2 e3 e9 eL eB e23 e24 e25 e0 hbz (stepO_miss q).symm
    by_cases q1 : x.Nodes[k].Name = n
    case neg =>
      have q1' : (x.Nodes[k].Name = n) = False := eq_false q1
      simp (disch := omega) only [t1, t3, t9, tL, tB, t23, t24, t25, q1', hlt, GNode.cells, Ex_cond, go_sem, Nat.reduceEqDiff, Nat.reduceAdd, ↓reduceIte]
      exact hmiss (by simp [ordHit, q1]) _ _ (by simp [upd]) (by simp [upd]) (by simp [upd]) (by simp [upd]) (by simp [upd]) (by simp [upd]) (by simp [upd, tB]) (by simp [upd]) (by simp [upd]) (by simp [upd]) (by first | rfl | (rw [w0, o0]))
    have q1' : (x.Nodes[k].Name = n) = True := eq_true q1
    by_cases q2 : s.length ≤ x.Nodes[k].Subs.length
    case neg =>
      have q2' : ((x.Nodes[k].Subs.length : Int) < (s.length : Int)) = True := eq_true (by omega)
      simp (disch := omega) only [t1, t3, t9, tL, tB, t23, t24, t25, q1', q2', hlt, GNode.cells, Ex_cond, go_sem, Nat.reduceEqDiff, Nat.reduceAdd, ↓reduceIte]
      exact hmiss (by simp [ordHit, q2]) _ _ (by simp [upd]) (by simp [upd]) (by simp [upd]) (by simp [upd]) (by simp [upd]) (by simp [upd]) (by simp [upd, tB]) (by simp [upd]) (by simp [upd]) (by simp [upd]) (by first | rfl | (rw [w0, o0]))
    have q2' : ((x.Nodes[k].Subs.length : Int) < (s.length : Int)) = False := eq_false (by omega)
    have q2n : s.length - 1 ≤ x.Nodes[k].Subs.length := by omega
    have q2l : s.length - 1 < x.Nodes[k].Subs.length := by omega
    have q2s : s.length - 1 ≤ s.length := by omega
    have htz := szS_mem (GNode.sz_Subs hb) (List.getElem_mem q2l)
    simp (disch := omega) only [t1, t2, t3, t9, tL, tB, t23, t24, t25, q1', q2', q2n, q2s, hn1, hlt, boundOr, take_mapR, wrap_in, GNode.cells, Ex_cond, go_sem, Nat.reduceEqDiff, Nat.reduceAdd, ↓reduceIte]
    refine PureCall.q (slices_Equal_string_ok (x.Nodes[k].Subs.take (s.length - 1)) (s.take (s.length - 1)) (by rw [List.length_take]; omega) _) ?_
    by_cases q3 : sameSubs (x.Nodes[k].Subs.take (s.length - 1)) (s.take (s.length - 1)) = true
    case neg =>
      have q3' : sameSubs (x.Nodes[k].Subs.take (s.length - 1)) (s.take (s.length - 1)) = false := by simpa using q3
      have q3n := q3'
      simp (disch := omega) only [q3n, go_sem]
      exact hmiss (by simp [ordHit, q3']) _ _ (by simp [upd]) (by simp [upd]) (by simp [upd]) (by simp [upd]) (by simp [upd]) (by simp [upd]) (by simp [upd, tB]) (by simp [upd]) (by simp [upd]) (by simp [upd]) (by first | rfl | (rw [w0, o0]))
    have hhit : ordHit n s x.Nodes[k] = true := by simp [ordHit, q1, q2, q3]
    have hst := stepO_hit (back := back) (last := s[s.length - 1]) (best := best) hhit q2l
    have q3n := q3
    clear hmiss
    cases back
    · by_cases eL : s[s.length - 1] = txt []
      · have eL' : (s[s.length - 1] = txt []) = True := eq_true eL
        simp (disch := omega) only [tB, q3n, cStr, eL', go_sem, Nat.reduceEqDiff, ↓reduceIte]
        by_cases eB : best = txt []
        · have eB' : (best = txt []) = True := eq_true eB
          simp (disch := omega) only [t25, wrap_in, eB', Ex_cond, go_sem, Nat.reduceEqDiff, ↓reduceIte]
          have hbt : better false s[s.length - 1] best x.Nodes[k].Subs[s.length - 1] = true := by unfold better; simp [eL, eB]
          rw [hbt] at hst
          exact hnx _ (x.Nodes[k].Subs[s.length - 1]) _ (by simp [upd]) (by simp [upd]) (by simp [upd]) (by simp [upd]) (by simp [upd]) (by simp [upd]) (by simp [upd]) (by simp [upd]) (by simp [upd]) (by simp [upd]) (by first | rfl | (rw [w0, o0])) htz (by rw [hst]; simp)
        · have eB' : (best = txt []) = False := eq_false eB
          simp (disch := omega) only [tB, eB', go_sem, Nat.reduceEqDiff, ↓reduceIte]
          refine PureCall.call (impl_Before_ok _ _ htz hbz _) ?_
          cases c2 : before x.Nodes[k].Subs[s.length - 1].data.toList best.data.toList
          · skip
            simp (disch := omega) only [t25, wrap_in, Ex_cond, go_sem, Nat.reduceEqDiff, ↓reduceIte]
            have hbt : better false s[s.length - 1] best x.Nodes[k].Subs[s.length - 1] = false := by unfold better; simp [eL, eB, c2]
            rw [hbt] at hst
            exact hnx _ (best) _ (by simp [upd]) (by simp [upd]) (by simp [upd]) (by simp [upd]) (by simp [upd]) (by simp [upd]) (by simp [upd, tB]) (by simp [upd]) (by simp [upd]) (by simp [upd]) (by first | rfl | (rw [w0, o0])) hbz (by rw [hst]; simp)
          · skip
            simp (disch := omega) only [t25, wrap_in, Ex_cond, go_sem, Nat.reduceEqDiff, ↓reduceIte]
            have hbt : better false s[s.length - 1] best x.Nodes[k].Subs[s.length - 1] = true := by unfold better; simp [eL, eB, c2]
            rw [hbt] at hst
            exact hnx _ (x.Nodes[k].Subs[s.length - 1]) _ (by simp [upd]) (by simp [upd]) (by simp [upd]) (by simp [upd]) (by simp [upd]) (by simp [upd]) (by simp [upd]) (by simp [upd]) (by simp [upd]) (by simp [upd]) (by first | rfl | (rw [w0, o0])) htz (by rw [hst]; simp)
      · have eL' : (s[s.length - 1] = txt []) = False := eq_false eL
        simp (disch := omega) only [tL, q3n, cStr, eL', go_sem, Nat.reduceEqDiff, ↓reduceIte]
        refine PureCall.call (impl_Before_ok _ _ hlz htz _) ?_
        cases c1 : before s[s.length - 1].data.toList x.Nodes[k].Subs[s.length - 1].data.toList
        · skip
          simp (disch := omega) only [t25, wrap_in, Ex_cond, go_sem, Nat.reduceEqDiff, ↓reduceIte]
          have hbt : better false s[s.length - 1] best x.Nodes[k].Subs[s.length - 1] = false := by unfold better; simp [eL, c1]
          rw [hbt] at hst
          exact hnx _ (best) _ (by simp [upd]) (by simp [upd]) (by simp [upd]) (by simp [upd]) (by simp [upd]) (by simp [upd]) (by simp [upd, tB]) (by simp [upd]) (by simp [upd]) (by simp [upd]) (by first | rfl | (rw [w0, o0])) hbz (by rw [hst]; simp)
        · skip
          simp (disch := omega) only [tB, go_sem, Nat.reduceEqDiff, ↓reduceIte]
          by_cases eB : best = txt []
          · have eB' : (best = txt []) = True := eq_true eB
            simp (disch := omega) only [t25, wrap_in, eB', Ex_cond, go_sem, Nat.reduceEqDiff, ↓reduceIte]
            have hbt : better false s[s.length - 1] best x.Nodes[k].Subs[s.length - 1] = true := by unfold better; simp [eL, c1, eB]
            rw [hbt] at hst
            exact hnx _ (x.Nodes[k].Subs[s.length - 1]) _ (by simp [upd]) (by simp [upd]) (by simp [upd]) (by simp [upd]) (by simp [upd]) (by simp [upd]) (by simp [upd]) (by simp [upd]) (by simp [upd]) (by simp [upd]) (by first | rfl | (rw [w0, o0])) htz (by rw [hst]; simp)
          · have eB' : (best = txt []) = False := eq_false eB
            simp (disch := omega) only [tB, eB', go_sem, Nat.reduceEqDiff, ↓reduceIte]
            refine PureCall.call (impl_Before_ok _ _ htz hbz _) ?_
            cases c2 : before x.Nodes[k].Subs[s.length - 1].data.toList best.data.toList
            · skip
              simp (disch := omega) only [t25, wrap_in, Ex_cond, go_sem, Nat.reduceEqDiff, ↓reduceIte]
              have hbt : better false s[s.length - 1] best x.Nodes[k].Subs[s.length - 1] = false := by unfold better; simp [eL, c1, eB, c2]
              rw [hbt] at hst
              exact hnx _ (best) _ (by simp [upd]) (by simp [upd]) (by simp [upd]) (by simp [upd]) (by simp [upd]) (by simp [upd]) (by simp [upd, tB]) (by simp [upd]) (by simp [upd]) (by simp [upd]) (by first | rfl | (rw [w0, o0])) hbz (by rw [hst]; simp)
            · skip
              simp (disch := omega) only [t25, wrap_in, Ex_cond, go_sem, Nat.reduceEqDiff, ↓reduceIte]
              have hbt : better false s[s.length - 1] best x.Nodes[k].Subs[s.length - 1] = true := by unfold better; simp [eL, c1, eB, c2]
              rw [hbt] at hst
              exact hnx _ (x.Nodes[k].Subs[s.length - 1]) _ (by simp [upd]) (by simp [upd]) (by simp [upd]) (by simp [upd]) (by simp [upd]) (by simp [upd]) (by simp [upd]) (by simp [upd]) (by simp [upd]) (by simp [upd]) (by first | rfl | (rw [w0, o0])) htz (by rw [hst]; simp)
    · by_cases eL : s[s.length - 1] = txt []
      · have eL' : (s[s.length - 1] = txt []) = True := eq_true eL
        simp (disch := omega) only [tB, q3n, cStr, eL', go_sem, Nat.reduceEqDiff, ↓reduceIte]
        by_cases eB : best = txt []
        · have eB' : (best = txt []) = True := eq_true eB
          simp (disch := omega) only [t25, wrap_in, eB', Ex_cond, go_sem, Nat.reduceEqDiff, ↓reduceIte]
          have hbt : better true s[s.length - 1] best x.Nodes[k].Subs[s.length - 1] = true := by unfold better; simp [eL, eB]
          rw [hbt] at hst
          exact hnx _ (x.Nodes[k].Subs[s.length - 1]) _ (by simp [upd]) (by simp [upd]) (by simp [upd]) (by simp [upd]) (by simp [upd]) (by simp [upd]) (by simp [upd]) (by simp [upd]) (by simp [upd]) (by simp [upd]) (by first | rfl | (rw [w0, o0])) htz (by rw [hst]; simp)
        · have eB' : (best = txt []) = False := eq_false eB
          simp (disch := omega) only [tB, eB', go_sem, Nat.reduceEqDiff, ↓reduceIte]
          refine PureCall.call (impl_Before_ok _ _ hbz htz _) ?_
          cases c2 : before best.data.toList x.Nodes[k].Subs[s.length - 1].data.toList
          · skip
            simp (disch := omega) only [t25, wrap_in, Ex_cond, go_sem, Nat.reduceEqDiff, ↓reduceIte]
            have hbt : better true s[s.length - 1] best x.Nodes[k].Subs[s.length - 1] = false := by unfold better; simp [eL, eB, c2]
            rw [hbt] at hst
            exact hnx _ (best) _ (by simp [upd]) (by simp [upd]) (by simp [upd]) (by simp [upd]) (by simp [upd]) (by simp [upd]) (by simp [upd, tB]) (by simp [upd]) (by simp [upd]) (by simp [upd]) (by first | rfl | (rw [w0, o0])) hbz (by rw [hst]; simp)
          · skip
            simp (disch := omega) only [t25, wrap_in, Ex_cond, go_sem, Nat.reduceEqDiff, ↓reduceIte]
            have hbt : better true s[s.length - 1] best x.Nodes[k].Subs[s.length - 1] = true := by unfold better; simp [eL, eB, c2]
            rw [hbt] at hst
            exact hnx _ (x.Nodes[k].Subs[s.length - 1]) _ (by simp [upd]) (by simp [upd]) (by simp [upd]) (by simp [upd]) (by simp [upd]) (by simp [upd]) (by simp [upd]) (by simp [upd]) (by simp [upd]) (by simp [upd]) (by first | rfl | (rw [w0, o0])) htz (by rw [hst]; simp)
      · have eL' : (s[s.length - 1] = txt []) = False := eq_false eL
        simp (disch := omega) only [tL, q3n, cStr, eL', go_sem, Nat.reduceEqDiff, ↓reduceIte]
        refine PureCall.call (impl_Before_ok _ _ htz hlz _) ?_
        cases c1 : before x.Nodes[k].Subs[s.length - 1].data.toList s[s.length - 1].data.toList
        · skip
          simp (disch := omega) only [t25, wrap_in, Ex_cond, go_sem, Nat.reduceEqDiff, ↓reduceIte]
          have hbt : better true s[s.length - 1] best x.Nodes[k].Subs[s.length - 1] = false := by unfold better; simp [eL, c1]
          rw [hbt] at hst
          exact hnx _ (best) _ (by simp [upd]) (by simp [upd]) (by simp [upd]) (by simp [upd]) (by simp [upd]) (by simp [upd]) (by simp [upd, tB]) (by simp [upd]) (by simp [upd]) (by simp [upd]) (by first | rfl | (rw [w0, o0])) hbz (by rw [hst]; simp)
        · skip
          simp (disch := omega) only [tB, go_sem, Nat.reduceEqDiff, ↓reduceIte]
          by_cases eB : best = txt []
          · have eB' : (best = txt []) = True := eq_true eB
            simp (disch := omega) only [t25, wrap_in, eB', Ex_cond, go_sem, Nat.reduceEqDiff, ↓reduceIte]
            have hbt : better true s[s.length - 1] best x.Nodes[k].Subs[s.length - 1] = true := by unfold better; simp [eL, c1, eB]
            rw [hbt] at hst
            exact hnx _ (x.Nodes[k].Subs[s.length - 1]) _ (by simp [upd]) (by simp [upd]) (by simp [upd]) (by simp [upd]) (by simp [upd]) (by simp [upd]) (by simp [upd]) (by simp [upd]) (by simp [upd]) (by simp [upd]) (by first | rfl | (rw [w0, o0])) htz (by rw [hst]; simp)
          · have eB' : (best = txt []) = False := eq_false eB
            simp (disch := omega) only [tB, eB', go_sem, Nat.reduceEqDiff, ↓reduceIte]
            refine PureCall.call (impl_Before_ok _ _ hbz htz _) ?_
            cases c2 : before best.data.toList x.Nodes[k].Subs[s.length - 1].data.toList
            · skip
              simp (disch := omega) only [t25, wrap_in, Ex_cond, go_sem, Nat.reduceEqDiff, ↓reduceIte]
              have hbt : better true s[s.length - 1] best x.Nodes[k].Subs[s.length - 1] = false := by unfold better; simp [eL, c1, eB, c2]
              rw [hbt] at hst
              exact hnx _ (best) _ (by simp [upd]) (by simp [upd]) (by simp [upd]) (by simp [upd]) (by simp [upd]) (by simp [upd]) (by simp [upd, tB]) (by simp [upd]) (by simp [upd]) (by simp [upd]) (by first | rfl | (rw [w0, o0])) hbz (by rw [hst]; simp)
            · skip
              simp (disch := omega) only [t25, wrap_in, Ex_cond, go_sem, Nat.reduceEqDiff, ↓reduceIte]
              have hbt : better true s[s.length - 1] best x.Nodes[k].Subs[s.length - 1] = true := by unfold better; simp [eL, c1, eB, c2]
              rw [hbt] at hst
              exact hnx _ (x.Nodes[k].Subs[s.length - 1]) _ (by simp [upd]) (by simp [upd]) (by simp [upd]) (by simp [upd]) (by simp [upd]) (by simp [upd]) (by simp [upd]) (by simp [upd]) (by simp [upd]) (by simp [upd]) (by first | rfl | (rw [w0, o0])) htz (by rw [hst]; simp)
  · simp (disch := omega) only [t1, tB, t23, t24, t25, hlt, Ex_cond, go_sem, Nat.reduceEqDiff, Nat.reduceAdd, ↓reduceIte]
    refine resolve_str ?_
    rw [hS, List.take_of_length_le (by omega)]

theorem spec_l03Order_ok (x : GTree) (n : ByteArray) (s : List ByteArray) (back : Bool) (hx : GTree.sz x ≤ 1048576) (hs : szList ByteArray.size s ≤ 1048576) (h0 : 0 < s.length) (h : List Row) : PureCall Tryz.prog 189 [.agg (GTree.cells x), .val (.string n), .list 0 1 (s.map cStr), .val (.bool back)] h (.val (.string (orderR x n s back))) := by
  refine pure_fn mixed Tryz.func189 low_spec_l03Order rfl rfl ?_ h
  have hz := GTree.sz_Nodes hx
  have hl := szList_len hz
  have hsl := szList_len hs
  have hm : ∀ a ∈ x.Nodes, GNode.sz a ≤ 1048576 := fun a ha => szList_le hz ha
  have hn1 : (s.length : Int) - 1 = ((s.length - 1 : Nat) : Int) := by omega
  have hlast : s.length - 1 < s.length := by omega
  have hlz := szS_mem hs (List.getElem_mem hlast)
  have hO : orderR x n s back = x.Nodes.foldl (stepO n s back s[s.length - 1]) (txt []) := by unfold orderR; rw [List.getD_eq_getElem?_getD, List.getElem?_eq_getElem hlast, Option.getD_some]
  rw [hO]
  simp (disch := omega) only [lf_spec_l03Order, c_spec_l03Order, GTree.cells, hn1, wrap_in, cStr, go_sem, Nat.reduceEqDiff, ↓reduceIte]
  refine Ex_loop (fun m t h => ∃ (k : Nat) (best : ByteArray), t 4 = .ptr 0 1 0 0 ∧ t 1 = .val (.string n) ∧ t 2 = .list 0 1 (s.map cStr) ∧ t 3 = .val (.bool back) ∧ t 9 = .val (.int .i64 s.length) ∧ t 10 = .val (.string s[s.length - 1]) ∧ t 11 = .val (.string best) ∧ t 12 = .val (.int .i64 k) ∧ h[0]? = some ⟨47, 1, [[.list 0 3 (x.Nodes.map GNode.cells)]]⟩ ∧ m = x.Nodes.length - k ∧ k ≤ x.Nodes.length ∧ best.size ≤ 1048576 ∧ best = (x.Nodes.take k).foldl (stepO n s back s[s.length - 1]) (txt [])) x.Nodes.length ⟨0, txt [], rfl, rfl, rfl, rfl, rfl, rfl, rfl, rfl, rfl, rfl, Nat.zero_le _, by simp [txt_size], rfl⟩ ?_
  rintro J hJ m t h ⟨k, best, t4, t1, t2, t3, t9, tL, tB, t12, o0, rfl, hk, hbz, hS⟩
  have w0 := fun l => get_old (l := l) o0
  by_cases hlt : k < x.Nodes.length
  · have hb := hm _ (List.getElem_mem hlt)
    have hbs := szList_len (GNode.sz_Subs hb)
    have hnx : ∀ (t' : Nat → AV) (b' : ByteArray) (h' : List Row), t' 4 = t 4 → t' 1 = t 1 → t' 2 = t 2 → t' 3 = t 3 → t' 9 = t 9 → t' 10 = t 10 → t' 11 = .val (.string b') → t' 12 = .val (.int .i64 (k + 1 : Nat)) → h'[0]? = h[0]? → b'.size ≤ 1048576 → b' = stepO n s back s[s.length - 1] best x.Nodes[k] → ∃ m, m < x.Nodes.length - k ∧ J m t' h' :=
      fun t' b' h' e4 e1 e2 e3 e9 eL eB e12 e0 ez ec => ⟨x.Nodes.length - (k + 1), by omega, hJ _ _ _ ⟨k + 1, b', e4.trans t4, e1.trans t1, e2.trans t2, e3.trans t3, e9.trans t9, eL.trans tL, eB, e12, e0.trans o0, rfl, by omega, ez, by rw [ec, fold_at _ _ _ hlt, ← hS]⟩⟩
    have hmiss : ordHit n s x.Nodes[k] = false → ∀ (t' : Nat → AV) (h' : List Row), t' 4 = t 4 → t' 1 = t 1 → t' 2 = t 2 → t' 3 = t 3 → t' 9 = t 9 → t' 10 = t 10 → t' 11 = .val (.string best) → t' 12 = .val (.int .i64 (k + 1 : Nat)) → h'[0]? = h[0]? → ∃ m, m < x.Nodes.length - k ∧ J m t' h' :=
      fun q t' h' e4 e1 e2 e3 e9 eL eB e12 e0 => hnx t' best h' e4 e1 e2 e3 e9 eL eB e12 e0 hbz (stepO_miss q).symm
    by_cases q1 : x.Nodes[k].Name = n
    case neg =>
      have q1' : (x.Nodes[k].Name = n) = False := eq_false q1
      simp (disch := omega) only [t4, t1, t3, t9, tB, t12, o0, q1', hlt, GNode.cells, Ex_cond, go_sem, Nat.reduceEqDiff, Nat.reduceAdd, ↓reduceIte]
      exact hmiss (by simp [ordHit, q1]) _ _ (by simp [upd]) (by simp [upd]) (by simp [upd]) (by simp [upd]) (by simp [upd]) (by simp [upd]) (by simp [upd, tB]) (by simp [upd]) (by first | rfl | (rw [w0, o0]))
    have q1' : (x.Nodes[k].Name = n) = True := eq_true q1
    by_cases q2 : s.length ≤ x.Nodes[k].Subs.length
    case neg =>
      have q2' : ((x.Nodes[k].Subs.length : Int) < (s.length : Int)) = True := eq_true (by omega)
      simp (disch := omega) only [t4, t1, t3, t9, tB, t12, o0, q1', q2', hlt, GNode.cells, Ex_cond, go_sem, Nat.reduceEqDiff, Nat.reduceAdd, ↓reduceIte]
      exact hmiss (by simp [ordHit, q2]) _ _ (by simp [upd]) (by simp [upd]) (by simp [upd]) (by simp [upd]) (by simp [upd]) (by simp [upd]) (by simp [upd, tB]) (by simp [upd]) (by first | rfl | (rw [w0, o0]))
    have q2' : ((x.Nodes[k].Subs.length : Int) < (s.length : Int)) = False := eq_false (by omega)
    have q2n : s.length - 1 ≤ x.Nodes[k].Subs.length := by omega
    have q2l : s.length - 1 < x.Nodes[k].Subs.length := by omega
    have q2s : s.length - 1 ≤ s.length := by omega
    have htz := szS_mem (GNode.sz_Subs hb) (List.getElem_mem q2l)
    simp (disch := omega) only [t4, t1, t2, t3, t9, tB, t12, o0, q1', q2', q2s, hn1, hlt, boundOr, take_mapR, wrap_in, GNode.cells, Ex_cond, go_sem, Nat.reduceEqDiff, Nat.reduceAdd, ↓reduceIte]
    refine PureCall.q (spec_l03Begins_ok x.Nodes[k].Subs (s.take (s.length - 1)) hbs _) ?_
    by_cases q3 : sameSubs (x.Nodes[k].Subs.take (s.length - 1)) (s.take (s.length - 1)) = true
    case neg =>
      have q3' : sameSubs (x.Nodes[k].Subs.take (s.length - 1)) (s.take (s.length - 1)) = false := by simpa using q3
      have q3n : starts (s.take (s.length - 1)) x.Nodes[k].Subs = false := by rw [starts_pre q2n]; exact q3'
      simp (disch := omega) only [q3n, go_sem]
      exact hmiss (by simp [ordHit, q3']) _ _ (by simp [upd]) (by simp [upd]) (by simp [upd]) (by simp [upd]) (by simp [upd]) (by simp [upd]) (by simp [upd, tB]) (by simp [upd]) (by first | rfl | (rw [w0, o0]))
    have hhit : ordHit n s x.Nodes[k] = true := by simp [ordHit, q1, q2, q3]
    have hst := stepO_hit (back := back) (last := s[s.length - 1]) (best := best) hhit q2l
    have q3n : starts (s.take (s.length - 1)) x.Nodes[k].Subs = true := by rw [starts_pre q2n]; exact q3
    clear hmiss
    cases back
    · by_cases eL : s[s.length - 1] = txt []
      · have eL' : (s[s.length - 1] = txt []) = True := eq_true eL
        simp (disch := omega) only [t3, tL, tB, q3n, cStr, eL', Ex_cond, go_sem, Nat.reduceEqDiff, ↓reduceIte]
        by_cases eB : best = txt []
        · have eB' : (best = txt []) = True := eq_true eB
          simp (disch := omega) only [t12, wrap_in, eB', Ex_cond, go_sem, Nat.reduceEqDiff, ↓reduceIte]
          have hbt : better false s[s.length - 1] best x.Nodes[k].Subs[s.length - 1] = true := by unfold better; simp [eL, eB]
          rw [hbt] at hst
          exact hnx _ (x.Nodes[k].Subs[s.length - 1]) _ (by simp [upd]) (by simp [upd]) (by simp [upd]) (by simp [upd]) (by simp [upd]) (by simp [upd]) (by simp [upd]) (by simp [upd]) (by first | rfl | (rw [w0, o0])) htz (by rw [hst]; simp)
        · have eB' : (best = txt []) = False := eq_false eB
          simp (disch := omega) only [tB, eB', go_sem, Nat.reduceEqDiff, ↓reduceIte]
          refine PureCall.call (spec_Before_ok _ _ htz hbz _) ?_
          cases c2 : before x.Nodes[k].Subs[s.length - 1].data.toList best.data.toList
          · skip
            simp (disch := omega) only [t12, wrap_in, Ex_cond, go_sem, Nat.reduceEqDiff, ↓reduceIte]
            have hbt : better false s[s.length - 1] best x.Nodes[k].Subs[s.length - 1] = false := by unfold better; simp [eL, eB, c2]
            rw [hbt] at hst
            exact hnx _ (best) _ (by simp [upd]) (by simp [upd]) (by simp [upd]) (by simp [upd]) (by simp [upd]) (by simp [upd]) (by simp [upd, tB]) (by simp [upd]) (by first | rfl | (rw [w0, o0])) hbz (by rw [hst]; simp)
          · skip
            simp (disch := omega) only [t12, wrap_in, Ex_cond, go_sem, Nat.reduceEqDiff, ↓reduceIte]
            have hbt : better false s[s.length - 1] best x.Nodes[k].Subs[s.length - 1] = true := by unfold better; simp [eL, eB, c2]
            rw [hbt] at hst
            exact hnx _ (x.Nodes[k].Subs[s.length - 1]) _ (by simp [upd]) (by simp [upd]) (by simp [upd]) (by simp [upd]) (by simp [upd]) (by simp [upd]) (by simp [upd]) (by simp [upd]) (by first | rfl | (rw [w0, o0])) htz (by rw [hst]; simp)
      · have eL' : (s[s.length - 1] = txt []) = False := eq_false eL
        simp (disch := omega) only [t3, tL, q3n, cStr, eL', Ex_cond, go_sem, Nat.reduceEqDiff, ↓reduceIte]
        refine PureCall.call (spec_Before_ok _ _ hlz htz _) ?_
        cases c1 : before s[s.length - 1].data.toList x.Nodes[k].Subs[s.length - 1].data.toList
        · skip
          simp (disch := omega) only [t12, wrap_in, Ex_cond, go_sem, Nat.reduceEqDiff, ↓reduceIte]
          have hbt : better false s[s.length - 1] best x.Nodes[k].Subs[s.length - 1] = false := by unfold better; simp [eL, c1]
          rw [hbt] at hst
          exact hnx _ (best) _ (by simp [upd]) (by simp [upd]) (by simp [upd]) (by simp [upd]) (by simp [upd]) (by simp [upd]) (by simp [upd, tB]) (by simp [upd]) (by first | rfl | (rw [w0, o0])) hbz (by rw [hst]; simp)
        · skip
          simp (disch := omega) only [tB, go_sem, Nat.reduceEqDiff, ↓reduceIte]
          by_cases eB : best = txt []
          · have eB' : (best = txt []) = True := eq_true eB
            simp (disch := omega) only [t12, wrap_in, eB', Ex_cond, go_sem, Nat.reduceEqDiff, ↓reduceIte]
            have hbt : better false s[s.length - 1] best x.Nodes[k].Subs[s.length - 1] = true := by unfold better; simp [eL, c1, eB]
            rw [hbt] at hst
            exact hnx _ (x.Nodes[k].Subs[s.length - 1]) _ (by simp [upd]) (by simp [upd]) (by simp [upd]) (by simp [upd]) (by simp [upd]) (by simp [upd]) (by simp [upd]) (by simp [upd]) (by first | rfl | (rw [w0, o0])) htz (by rw [hst]; simp)
          · have eB' : (best = txt []) = False := eq_false eB
            simp (disch := omega) only [tB, eB', go_sem, Nat.reduceEqDiff, ↓reduceIte]
            refine PureCall.call (spec_Before_ok _ _ htz hbz _) ?_
            cases c2 : before x.Nodes[k].Subs[s.length - 1].data.toList best.data.toList
            · skip
              simp (disch := omega) only [t12, wrap_in, Ex_cond, go_sem, Nat.reduceEqDiff, ↓reduceIte]
              have hbt : better false s[s.length - 1] best x.Nodes[k].Subs[s.length - 1] = false := by unfold better; simp [eL, c1, eB, c2]
              rw [hbt] at hst
              exact hnx _ (best) _ (by simp [upd]) (by simp [upd]) (by simp [upd]) (by simp [upd]) (by simp [upd]) (by simp [upd]) (by simp [upd, tB]) (by simp [upd]) (by first | rfl | (rw [w0, o0])) hbz (by rw [hst]; simp)
            · skip
              simp (disch := omega) only [t12, wrap_in, Ex_cond, go_sem, Nat.reduceEqDiff, ↓reduceIte]
              have hbt : better false s[s.length - 1] best x.Nodes[k].Subs[s.length - 1] = true := by unfold better; simp [eL, c1, eB, c2]
              rw [hbt] at hst
              exact hnx _ (x.Nodes[k].Subs[s.length - 1]) _ (by simp [upd]) (by simp [upd]) (by simp [upd]) (by simp [upd]) (by simp [upd]) (by simp [upd]) (by simp [upd]) (by simp [upd]) (by first | rfl | (rw [w0, o0])) htz (by rw [hst]; simp)
    · by_cases eL : s[s.length - 1] = txt []
      · have eL' : (s[s.length - 1] = txt []) = True := eq_true eL
        simp (disch := omega) only [tL, tB, q3n, cStr, eL', go_sem, Nat.reduceEqDiff, ↓reduceIte]
        by_cases eB : best = txt []
        · have eB' : (best = txt []) = True := eq_true eB
          simp (disch := omega) only [t3, t12, wrap_in, eB', Ex_cond, go_sem, Nat.reduceEqDiff, ↓reduceIte]
          have hbt : better true s[s.length - 1] best x.Nodes[k].Subs[s.length - 1] = true := by unfold better; simp [eL, eB]
          rw [hbt] at hst
          exact hnx _ (x.Nodes[k].Subs[s.length - 1]) _ (by simp [upd]) (by simp [upd]) (by simp [upd]) (by simp [upd]) (by simp [upd]) (by simp [upd]) (by simp [upd]) (by simp [upd]) (by first | rfl | (rw [w0, o0])) htz (by rw [hst]; simp)
        · have eB' : (best = txt []) = False := eq_false eB
          simp (disch := omega) only [tB, eB', go_sem, Nat.reduceEqDiff, ↓reduceIte]
          refine PureCall.call (spec_Before_ok _ _ hbz htz _) ?_
          cases c2 : before best.data.toList x.Nodes[k].Subs[s.length - 1].data.toList
          · skip
            simp (disch := omega) only [t3, t12, wrap_in, Ex_cond, go_sem, Nat.reduceEqDiff, ↓reduceIte]
            have hbt : better true s[s.length - 1] best x.Nodes[k].Subs[s.length - 1] = false := by unfold better; simp [eL, eB, c2]
            rw [hbt] at hst
            exact hnx _ (best) _ (by simp [upd]) (by simp [upd]) (by simp [upd]) (by simp [upd]) (by simp [upd]) (by simp [upd]) (by simp [upd, tB]) (by simp [upd]) (by first | rfl | (rw [w0, o0])) hbz (by rw [hst]; simp)
          · skip
            simp (disch := omega) only [t3, t12, wrap_in, Ex_cond, go_sem, Nat.reduceEqDiff, ↓reduceIte]
            have hbt : better true s[s.length - 1] best x.Nodes[k].Subs[s.length - 1] = true := by unfold better; simp [eL, eB, c2]
            rw [hbt] at hst
            exact hnx _ (x.Nodes[k].Subs[s.length - 1]) _ (by simp [upd]) (by simp [upd]) (by simp [upd]) (by simp [upd]) (by simp [upd]) (by simp [upd]) (by simp [upd]) (by simp [upd]) (by first | rfl | (rw [w0, o0])) htz (by rw [hst]; simp)
      · have eL' : (s[s.length - 1] = txt []) = False := eq_false eL
        simp (disch := omega) only [tL, q3n, cStr, eL', go_sem, Nat.reduceEqDiff, ↓reduceIte]
        refine PureCall.call (spec_Before_ok _ _ htz hlz _) ?_
        cases c1 : before x.Nodes[k].Subs[s.length - 1].data.toList s[s.length - 1].data.toList
        · skip
          simp (disch := omega) only [t3, t12, wrap_in, Ex_cond, go_sem, Nat.reduceEqDiff, ↓reduceIte]
          have hbt : better true s[s.length - 1] best x.Nodes[k].Subs[s.length - 1] = false := by unfold better; simp [eL, c1]
          rw [hbt] at hst
          exact hnx _ (best) _ (by simp [upd]) (by simp [upd]) (by simp [upd]) (by simp [upd]) (by simp [upd]) (by simp [upd]) (by simp [upd, tB]) (by simp [upd]) (by first | rfl | (rw [w0, o0])) hbz (by rw [hst]; simp)
        · skip
          simp (disch := omega) only [tB, go_sem, Nat.reduceEqDiff, ↓reduceIte]
          by_cases eB : best = txt []
          · have eB' : (best = txt []) = True := eq_true eB
            simp (disch := omega) only [t3, t12, wrap_in, eB', Ex_cond, go_sem, Nat.reduceEqDiff, ↓reduceIte]
            have hbt : better true s[s.length - 1] best x.Nodes[k].Subs[s.length - 1] = true := by unfold better; simp [eL, c1, eB]
            rw [hbt] at hst
            exact hnx _ (x.Nodes[k].Subs[s.length - 1]) _ (by simp [upd]) (by simp [upd]) (by simp [upd]) (by simp [upd]) (by simp [upd]) (by simp [upd]) (by simp [upd]) (by simp [upd]) (by first | rfl | (rw [w0, o0])) htz (by rw [hst]; simp)
          · have eB' : (best = txt []) = False := eq_false eB
            simp (disch := omega) only [tB, eB', go_sem, Nat.reduceEqDiff, ↓reduceIte]
            refine PureCall.call (spec_Before_ok _ _ hbz htz _) ?_
            cases c2 : before best.data.toList x.Nodes[k].Subs[s.length - 1].data.toList
            · skip
              simp (disch := omega) only [t3, t12, wrap_in, Ex_cond, go_sem, Nat.reduceEqDiff, ↓reduceIte]
              have hbt : better true s[s.length - 1] best x.Nodes[k].Subs[s.length - 1] = false := by unfold better; simp [eL, c1, eB, c2]
              rw [hbt] at hst
              exact hnx _ (best) _ (by simp [upd]) (by simp [upd]) (by simp [upd]) (by simp [upd]) (by simp [upd]) (by simp [upd]) (by simp [upd, tB]) (by simp [upd]) (by first | rfl | (rw [w0, o0])) hbz (by rw [hst]; simp)
            · skip
              simp (disch := omega) only [t3, t12, wrap_in, Ex_cond, go_sem, Nat.reduceEqDiff, ↓reduceIte]
              have hbt : better true s[s.length - 1] best x.Nodes[k].Subs[s.length - 1] = true := by unfold better; simp [eL, c1, eB, c2]
              rw [hbt] at hst
              exact hnx _ (x.Nodes[k].Subs[s.length - 1]) _ (by simp [upd]) (by simp [upd]) (by simp [upd]) (by simp [upd]) (by simp [upd]) (by simp [upd]) (by simp [upd]) (by simp [upd]) (by first | rfl | (rw [w0, o0])) htz (by rw [hst]; simp)
  · simp (disch := omega) only [t4, t1, tB, t12, o0, hlt, Ex_cond, go_sem, Nat.reduceEqDiff, Nat.reduceAdd, ↓reduceIte]
    refine resolve_str ?_
    rw [hS, List.take_of_length_le (by omega)]

end Go.Proofs.YtclhpcfpchpbnaaGreatDoor
