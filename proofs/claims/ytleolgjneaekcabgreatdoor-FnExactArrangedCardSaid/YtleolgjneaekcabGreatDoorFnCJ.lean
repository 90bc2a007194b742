/-
  Contracts of functions of this program, over abstract values. Conditions: as each theorem says.
-/
import Derived.Test.YtleolgjneaekcabGreatDoorFnCI
namespace Go.Proofs.YtleolgjneaekcabGreatDoor
open Go.AW
set_option linter.unusedVariables false
set_option linter.unusedSimpArgs false
set_option maxRecDepth 4000

theorem has_take {xs : List Int} {k : Nat} (v : Int) (hx : xs.length ≤ 1048576) (F : Nat) (hF : ∀ (ys : List Int), ys.length ≤ 1048576 → ∀ h, PureCall Tryz.prog F [.list 0 1 (ys.map cInt), .val (.int .i64 v)] h (.val (.bool (hasI ys v)))) (h : List Row) : PureCall Tryz.prog F [.list 0 1 ((xs.map cInt).take k), .val (.int .i64 v)] h (.val (.bool (hasI (xs.take k) v))) := by
  rw [← List.map_take]; exact hF _ (by rw [List.length_take]; omega) h
abbrev doingsRes (p : List GDoing × Int) : AV := .tup [.list 0 6 (p.1.map GDoing.cells), .val (.int .i64 p.2)]
def ArrQ (a : AV) : Prop := ∃ b q, a = .tup [b, .val (.int .i64 q)]
theorem arr_no {xs : List GDoing} {ord : List Int} (h : (doingsOk xs && decide ((ord.length : Int) ≤ 4)) = false) : arrangedR xs ord = ([], 1) := by rw [arrangedR, h]; rfl
theorem arr_bad {xs : List GDoing} {ord : List Int} (h : (doingsOk xs && decide ((ord.length : Int) ≤ 4)) = true) (h2 : (ordFrom [] ord && xs.all fun d => hasI ord d.Job) = false) : arrangedR xs ord = ([], 2) := by rw [arrangedR, if_pos h, h2]; rfl
theorem arr_ok {xs : List GDoing} {ord : List Int} (h : (doingsOk xs && decide ((ord.length : Int) ≤ 4)) = true) (h2 : (ordFrom [] ord && xs.all fun d => hasI ord d.Job) = true) : arrangedR xs ord = (flatJ xs ord, 0) := by rw [arrangedR, if_pos h, if_pos h2]
theorem doing_fb {lo hi : Nat} {H : List Row} {x : GDoing} {j : Int} {cs : List AV} (e : x.Job = j) (h : FreshLB lo hi H cs (GEvent.cells x.Event)) : FreshLB lo hi H (.val (.int .i64 j) :: cs) (GDoing.cells x) := by subst e; exact FreshLB.val _ h
def c_impl_Arranged : LC :=
 .seq (.ops [⟨some 4, none, .mov (.const (.slice none 0 0))⟩, ⟨some 5, none, .mov (.const (.int .i64 0))⟩]) (.seq (.seq (.ops [⟨some 13, none, .mov (.tmp 0)⟩, ⟨some 14, none, .call 72 [.tmp 13]⟩, ⟨some 15, none, .un .not
 (.tmp 14)⟩, ⟨some 16, none, .mov (.tmp 15)⟩, ⟨some 17, (some (16, false)), .mov (.tmp 1)⟩, ⟨some 18, (some (16, false)), .lenSl (.tmp 17)⟩, ⟨some 19, (some (16, false)), .bin .gtr false (.tmp 18) (.const (.int .i64 4))⟩,
 ⟨some 20, none, .pick (.tmp 16) (.const (.bool true)) (.tmp 19)⟩]) (.cond (.tmp 20) (.seq (.ops [⟨some 4, none, .mov (.const (.slice none 0 0))⟩, ⟨some 5, none, .mov (.const (.int .i64 1))⟩]) (.ret)) (.skip))) (.seq (.seq
 (.ops [⟨some 21, none, .mov (.tmp 1)⟩, ⟨some 22, none, .lenSl (.tmp 21)⟩, ⟨some 23, none, .mov (.const (.int .i64 0))⟩]) (.block 0 (.loop (.seq (.ops [⟨some 24, none, .bin .lss false (.tmp 23) (.tmp 22)⟩]) (.seq (.cond
 (.tmp 24) (.skip) (.exit 0)) (.seq (.block 1 (.seq (.ops [⟨some 25, none, .mov (.tmp 23)⟩, ⟨some 26, none, .indexAddr 1 (.tmp 21) (.tmp 23)⟩, ⟨some 27, none, .load none (.tmp 26)⟩, ⟨some 6, none, .mov (.tmp 25)⟩, ⟨some 7,
 none, .mov (.tmp 27)⟩]) (.seq (.ops [⟨some 28, none, .mov (.tmp 7)⟩, ⟨some 29, none, .call 73 [.tmp 28]⟩, ⟨some 30, none, .un .not (.tmp 29)⟩, ⟨some 31, none, .mov (.tmp 30)⟩, ⟨some 32, (some (31, false)), .mov (.tmp 1)⟩,
 ⟨some 33, (some (31, false)), .mov (.tmp 6)⟩, ⟨some 34, (some (31, false)), .sliceSl 1 (.tmp 32) none (some (.tmp 33))⟩, ⟨some 35, (some (31, false)), .mov (.tmp 7)⟩, ⟨some 36, (some (31, false)), .call 74 [.tmp 34, .tmp
 35]⟩, ⟨some 37, none, .pick (.tmp 31) (.const (.bool true)) (.tmp 36)⟩]) (.cond (.tmp 37) (.seq (.ops [⟨some 4, none, .mov (.const (.slice none 0 0))⟩, ⟨some 5, none, .mov (.const (.int .i64 2))⟩]) (.ret)) (.skip)))))
 (.ops [⟨some 38, none, .bin .add false (.tmp 23) (.const (.int .i64 1))⟩, ⟨some 23, none, .mov (.tmp 38)⟩]))))))) (.seq (.ops [⟨some 39, none, .buildSlice 91 6 (.agg #[.int .i64 0, .int .i64 0, .string ⟨#[]⟩, .slice none
 0 0, .string ⟨#[]⟩, .int .i64 0]) 0 []⟩, ⟨some 8, none, .mov (.tmp 39)⟩]) (.seq (.seq (.ops [⟨some 40, none, .mov (.tmp 1)⟩, ⟨some 41, none, .lenSl (.tmp 40)⟩, ⟨some 42, none, .mov (.const (.int .i64 0))⟩]) (.block 2
 (.loop (.seq (.ops [⟨some 43, none, .bin .lss false (.tmp 42) (.tmp 41)⟩]) (.seq (.cond (.tmp 43) (.skip) (.exit 2)) (.seq (.block 3 (.seq (.ops [⟨some 44, none, .indexAddr 1 (.tmp 40) (.tmp 42)⟩, ⟨some 45, none, .load
 none (.tmp 44)⟩, ⟨some 10, none, .mov (.tmp 45)⟩]) (.seq (.ops [⟨some 46, none, .mov (.tmp 0)⟩, ⟨some 47, none, .lenSl (.tmp 46)⟩, ⟨some 48, none, .mov (.const (.int .i64 0))⟩]) (.block 4 (.loop (.seq (.ops [⟨some 49,
 none, .bin .lss false (.tmp 48) (.tmp 47)⟩]) (.seq (.cond (.tmp 49) (.skip) (.exit 4)) (.seq (.block 5 (.seq (.ops [⟨some 50, none, .indexAddr 6 (.tmp 46) (.tmp 48)⟩, ⟨some 51, none, .load (some 6) (.tmp 50)⟩, ⟨some 12,
 none, .alloc 91 (.agg #[.int .i64 0, .int .i64 0, .string ⟨#[]⟩, .slice none 0 0, .string ⟨#[]⟩, .int .i64 0])⟩, ⟨none, none, .store 6 (.tmp 12) (.tmp 51)⟩]) (.seq (.ops [⟨some 52, none, .fieldAddr 0 (.tmp 12)⟩, ⟨some 53,
 none, .load none (.tmp 52)⟩, ⟨some 54, none, .mov (.tmp 10)⟩, ⟨some 55, none, .bin .eql false (.tmp 53) (.tmp 54)⟩]) (.cond (.tmp 55) (.ops [⟨some 56, none, .mov (.tmp 8)⟩, ⟨some 57, none, .mov (.tmp 10)⟩, ⟨some 58, none,
 .fieldAddr 1 (.tmp 12)⟩, ⟨some 59, none, .load (some 5) (.tmp 58)⟩, ⟨some 60, none, .call 75 [.tmp 59]⟩, ⟨some 61, none, .build (.agg #[.int .i64 0, .int .i64 0, .string ⟨#[]⟩, .slice none 0 0, .string ⟨#[]⟩, .int .i64
 0]) [(0, 1), (1, 5)] [(0, .tmp 57), (1, .tmp 60)]⟩, ⟨some 62, none, .buildSlice 91 6 (.agg #[.int .i64 0, .int .i64 0, .string ⟨#[]⟩, .slice none 0 0, .string ⟨#[]⟩, .int .i64 0]) 1 [(0, .tmp 61)]⟩, ⟨some 63, none,
 .append 91 6 80 (.tmp 56) (.tmp 62)⟩, ⟨some 8, none, .mov (.tmp 63)⟩]) (.skip))))) (.ops [⟨some 64, none, .bin .add false (.tmp 48) (.const (.int .i64 1))⟩, ⟨some 48, none, .mov (.tmp 64)⟩]))))))))) (.ops [⟨some 65, none,
 .bin .add false (.tmp 42) (.const (.int .i64 1))⟩, ⟨some 42, none, .mov (.tmp 65)⟩]))))))) (.seq (.seq (.ops [⟨some 66, none, .mov (.tmp 8)⟩, ⟨some 67, none, .lenSl (.tmp 66)⟩, ⟨some 68, none, .mov (.tmp 0)⟩, ⟨some 69,
 none, .lenSl (.tmp 68)⟩, ⟨some 70, none, .bin .neq false (.tmp 67) (.tmp 69)⟩]) (.cond (.tmp 70) (.seq (.ops [⟨some 4, none, .mov (.const (.slice none 0 0))⟩, ⟨some 5, none, .mov (.const (.int .i64 2))⟩]) (.ret))
 (.skip))) (.seq (.ops [⟨some 71, none, .mov (.tmp 8)⟩, ⟨some 4, none, .mov (.tmp 71)⟩, ⟨some 5, none, .mov (.const (.int .i64 0))⟩]) (.ret)))))))
def lf_impl_Arranged : LF := { np := 2, N := 72, body := c_impl_Arranged, res := [.tmp 4, .tmp 5] }
theorem low_impl_Arranged : LowF Tryz.prog Tryz.f39 lf_impl_Arranged := LowF.mk' (by kernel_rfl) (by kernel_rfl) (by kernel_rfl) (by decide)

def c_spec_Arranged : LC :=
 .seq (.ops [⟨some 4, none, .mov (.const (.slice none 0 0))⟩, ⟨some 5, none, .mov (.const (.int .i64 0))⟩]) (.seq (.seq (.ops [⟨some 11, none, .mov (.tmp 0)⟩, ⟨some 12, none, .call 67 [.tmp 11]⟩, ⟨some 13, none, .un .not
 (.tmp 12)⟩, ⟨some 14, none, .mov (.tmp 13)⟩, ⟨some 15, (some (14, false)), .mov (.tmp 1)⟩, ⟨some 16, (some (14, false)), .lenSl (.tmp 15)⟩, ⟨some 17, (some (14, false)), .bin .gtr false (.tmp 16) (.const (.int .i64 4))⟩,
 ⟨some 18, none, .pick (.tmp 14) (.const (.bool true)) (.tmp 17)⟩]) (.cond (.tmp 18) (.seq (.ops [⟨some 19, none, .buildSlice 91 6 (.agg #[.int .i64 0, .int .i64 0, .string ⟨#[]⟩, .slice none 0 0, .string ⟨#[]⟩, .int .i64
 0]) 0 []⟩, ⟨some 4, none, .mov (.tmp 19)⟩, ⟨some 5, none, .mov (.const (.int .i64 1))⟩]) (.ret)) (.skip))) (.seq (.seq (.ops [⟨some 6, none, .mov (.const (.int .i64 0))⟩]) (.block 0 (.loop (.seq (.seq (.ops [⟨some 20,
 none, .mov (.tmp 6)⟩, ⟨some 21, none, .mov (.tmp 1)⟩, ⟨some 22, none, .lenSl (.tmp 21)⟩, ⟨some 23, none, .bin .lss false (.tmp 20) (.tmp 22)⟩]) (.cond (.tmp 23) (.skip) (.exit 0))) (.seq (.block 1 (.seq (.dops [⟨some 26,
 none, .mov (.tmp 1)⟩, ⟨some 27, none, .mov (.tmp 6)⟩, ⟨some 28, none, .indexAddr 1 (.tmp 26) (.tmp 27)⟩, ⟨some 29, none, .load none (.tmp 28)⟩, ⟨some 30, none, .call 68 [.tmp 29]⟩, ⟨some 31, none, .un .not (.tmp 30)⟩,
 ⟨some 32, none, .mov (.tmp 31)⟩, ⟨some 33, (some (32, false)), .mov (.tmp 1)⟩, ⟨some 34, (some (32, false)), .mov (.tmp 6)⟩, ⟨some 35, (some (32, false)), .sliceSl 1 (.tmp 33) none (some (.tmp 34))⟩, ⟨some 36, (some (32,
 false)), .mov (.tmp 1)⟩, ⟨some 37, (some (32, false)), .mov (.tmp 6)⟩, ⟨some 38, (some (32, false)), .indexAddr 1 (.tmp 36) (.tmp 37)⟩, ⟨some 39, (some (32, false)), .load none (.tmp 38)⟩, ⟨some 40, (some (32, false)),
 .call 69 [.tmp 35, .tmp 39]⟩, ⟨some 41, none, .pick (.tmp 32) (.const (.bool true)) (.tmp 40)⟩]) (.cond (.tmp 41) (.seq (.ops [⟨some 42, none, .buildSlice 91 6 (.agg #[.int .i64 0, .int .i64 0, .string ⟨#[]⟩, .slice none
 0 0, .string ⟨#[]⟩, .int .i64 0]) 0 []⟩, ⟨some 4, none, .mov (.tmp 42)⟩, ⟨some 5, none, .mov (.const (.int .i64 2))⟩]) (.ret)) (.skip)))) (.ops [⟨some 24, none, .mov (.tmp 6)⟩, ⟨some 25, none, .bin .add false (.tmp 24)
 (.const (.int .i64 1))⟩, ⟨some 6, none, .mov (.tmp 25)⟩])))))) (.seq (.seq (.ops [⟨some 7, none, .mov (.const (.int .i64 0))⟩]) (.block 2 (.loop (.seq (.seq (.ops [⟨some 43, none, .mov (.tmp 7)⟩, ⟨some 44, none, .mov
 (.tmp 0)⟩, ⟨some 45, none, .lenSl (.tmp 44)⟩, ⟨some 46, none, .bin .lss false (.tmp 43) (.tmp 45)⟩]) (.cond (.tmp 46) (.skip) (.exit 2))) (.seq (.block 3 (.seq (.ops [⟨some 49, none, .mov (.tmp 1)⟩, ⟨some 50, none, .mov
 (.tmp 0)⟩, ⟨some 51, none, .mov (.tmp 7)⟩, ⟨some 52, none, .indexAddr 6 (.tmp 50) (.tmp 51)⟩, ⟨some 53, none, .fieldAddr 0 (.tmp 52)⟩, ⟨some 54, none, .load none (.tmp 53)⟩, ⟨some 55, none, .call 69 [.tmp 49, .tmp 54]⟩,
 ⟨some 56, none, .un .not (.tmp 55)⟩]) (.cond (.tmp 56) (.seq (.ops [⟨some 57, none, .buildSlice 91 6 (.agg #[.int .i64 0, .int .i64 0, .string ⟨#[]⟩, .slice none 0 0, .string ⟨#[]⟩, .int .i64 0]) 0 []⟩, ⟨some 4, none,
 .mov (.tmp 57)⟩, ⟨some 5, none, .mov (.const (.int .i64 2))⟩]) (.ret)) (.skip)))) (.ops [⟨some 47, none, .mov (.tmp 7)⟩, ⟨some 48, none, .bin .add false (.tmp 47) (.const (.int .i64 1))⟩, ⟨some 7, none, .mov (.tmp
 48)⟩])))))) (.seq (.ops [⟨some 58, none, .buildSlice 91 6 (.agg #[.int .i64 0, .int .i64 0, .string ⟨#[]⟩, .slice none 0 0, .string ⟨#[]⟩, .int .i64 0]) 0 []⟩, ⟨some 8, none, .mov (.tmp 58)⟩]) (.seq (.seq (.ops [⟨some 9,
 none, .mov (.const (.int .i64 0))⟩]) (.block 4 (.loop (.seq (.seq (.ops [⟨some 59, none, .mov (.tmp 9)⟩, ⟨some 60, none, .mov (.tmp 1)⟩, ⟨some 61, none, .lenSl (.tmp 60)⟩, ⟨some 62, none, .bin .lss false (.tmp 59) (.tmp
 61)⟩]) (.cond (.tmp 62) (.skip) (.exit 4))) (.seq (.block 5 (.seq (.ops [⟨some 10, none, .mov (.const (.int .i64 0))⟩]) (.block 6 (.loop (.seq (.seq (.ops [⟨some 65, none, .mov (.tmp 10)⟩, ⟨some 66, none, .mov (.tmp 0)⟩,
 ⟨some 67, none, .lenSl (.tmp 66)⟩, ⟨some 68, none, .bin .lss false (.tmp 65) (.tmp 67)⟩]) (.cond (.tmp 68) (.skip) (.exit 6))) (.seq (.block 7 (.seq (.dops [⟨some 71, none, .mov (.tmp 0)⟩, ⟨some 72, none, .mov (.tmp 10)⟩,
 ⟨some 73, none, .indexAddr 6 (.tmp 71) (.tmp 72)⟩, ⟨some 74, none, .fieldAddr 0 (.tmp 73)⟩, ⟨some 75, none, .load none (.tmp 74)⟩, ⟨some 76, none, .mov (.tmp 1)⟩, ⟨some 77, none, .mov (.tmp 9)⟩, ⟨some 78, none, .indexAddr
 1 (.tmp 76) (.tmp 77)⟩, ⟨some 79, none, .load none (.tmp 78)⟩, ⟨some 80, none, .bin .eql false (.tmp 75) (.tmp 79)⟩]) (.cond (.tmp 80) (.gops [⟨some 81, none, .mov (.tmp 8)⟩, ⟨some 82, none, .mov (.tmp 0)⟩, ⟨some 83,
 none, .mov (.tmp 10)⟩, ⟨some 84, none, .indexAddr 6 (.tmp 82) (.tmp 83)⟩, ⟨some 85, none, .fieldAddr 0 (.tmp 84)⟩, ⟨some 86, none, .load none (.tmp 85)⟩, ⟨some 87, none, .mov (.tmp 0)⟩, ⟨some 88, none, .mov (.tmp 10)⟩,
 ⟨some 89, none, .indexAddr 6 (.tmp 87) (.tmp 88)⟩, ⟨some 90, none, .fieldAddr 1 (.tmp 89)⟩, ⟨some 91, none, .load (some 5) (.tmp 90)⟩] [(⟨some 92, none, .call 70 [.tmp 91]⟩, [⟨some 81, none, .mov (.tmp 8)⟩, ⟨some 82,
 none, .mov (.tmp 0)⟩, ⟨some 83, none, .mov (.tmp 10)⟩, ⟨some 84, none, .indexAddr 6 (.tmp 82) (.tmp 83)⟩, ⟨some 85, none, .fieldAddr 0 (.tmp 84)⟩, ⟨some 86, none, .load none (.tmp 85)⟩]), (⟨some 93, none, .build (.agg
 #[.int .i64 0, .int .i64 0, .string ⟨#[]⟩, .slice none 0 0, .string ⟨#[]⟩, .int .i64 0]) [(0, 1), (1, 5)] [(0, .tmp 86), (1, .tmp 92)]⟩, [⟨some 81, none, .mov (.tmp 8)⟩]), (⟨some 94, none, .buildSlice 91 6 (.agg #[.int
 .i64 0, .int .i64 0, .string ⟨#[]⟩, .slice none 0 0, .string ⟨#[]⟩, .int .i64 0]) 1 [(0, .tmp 93)]⟩, [⟨some 81, none, .mov (.tmp 8)⟩]), (⟨some 95, none, .append 91 6 80 (.tmp 81) (.tmp 94)⟩, []), (⟨some 8, none, .mov
 (.tmp 95)⟩, [])]) (.skip)))) (.ops [⟨some 69, none, .mov (.tmp 10)⟩, ⟨some 70, none, .bin .add false (.tmp 69) (.const (.int .i64 1))⟩, ⟨some 10, none, .mov (.tmp 70)⟩]))))))) (.ops [⟨some 63, none, .mov (.tmp 9)⟩, ⟨some
 64, none, .bin .add false (.tmp 63) (.const (.int .i64 1))⟩, ⟨some 9, none, .mov (.tmp 64)⟩])))))) (.seq (.ops [⟨some 96, none, .mov (.tmp 8)⟩, ⟨some 4, none, .mov (.tmp 96)⟩, ⟨some 5, none, .mov (.const (.int .i64 0))⟩])
 (.ret)))))))
def lf_spec_Arranged : LF := { np := 2, N := 97, body := c_spec_Arranged, res := [.tmp 4, .tmp 5] }
theorem low_spec_Arranged : LowF Tryz.prog Tryz.f36 lf_spec_Arranged := LowF.mk' (by kernel_rfl) (by kernel_rfl) (by kernel_rfl) (by decide)

theorem impl_Arranged_fresh (xs : List GDoing) (ord : List Int) (hs : szList GDoing.sz xs ≤ 1048576) (hord : ord.length ≤ 1048576) : FreshCall Tryz.prog 39 [.list 0 6 (xs.map GDoing.cells), .list 0 1 (ord.map cInt)] (doingsRes (arrangedR xs ord)) ArrQ := by
  refine fresh_fn2 mixed Tryz.func39 low_impl_Arranged rfl (fun h0 => ?_)
  have hl := szList_len hs
  have hm : ∀ e ∈ xs, GDoing.sz e ≤ 1048576 := fun e he => by have := szList_mem (f := GDoing.sz) he; omega
  simp (disch := omega) only [lf_impl_Arranged, c_impl_Arranged, Ex_cond, go_sem, Nat.reduceEqDiff, Nat.reduceAdd, Nat.reduceLeDiff, reduceCtorEq, Int.reduceLT, Int.reduceLE, Int.reduceNeg, Int.reduceSub, Int.reduceAdd, Int.reduceToNat, ↓reduceIte]
  refine PureCall.call (impl_DoingsOk_ok xs hs _) ?_
  by_cases q : doingsOk xs = true
  case neg =>
    have q' : doingsOk xs = false := by simpa using q
    simp (disch := omega) only [q', Ex_cond, go_sem, Nat.reduceEqDiff, Nat.reduceAdd, Nat.reduceLeDiff, reduceCtorEq, Int.reduceLT, Int.reduceLE, Int.reduceNeg, Int.reduceSub, Int.reduceAdd, Int.reduceToNat, ↓reduceIte]
    rw [arr_no (by rw [q', Bool.false_and])]
    exact ⟨⟨More.refl _, FreshB.pair (FreshB.mknil _ _ _ 6) (Nat.le_refl _) _⟩, _, _, rfl⟩
  by_cases q4 : (ord.length : Int) ≤ 4
  case neg =>
    have q4' : ((4 : Int) < ord.length) = True := eq_true (by omega)
    simp (disch := omega) only [q, q4', Ex_cond, go_sem, Nat.reduceEqDiff, Nat.reduceAdd, Nat.reduceLeDiff, reduceCtorEq, Int.reduceLT, Int.reduceLE, Int.reduceNeg, Int.reduceSub, Int.reduceAdd, Int.reduceToNat, ↓reduceIte]
    rw [arr_no (by rw [decide_eq_false q4, Bool.and_false])]
    exact ⟨⟨More.refl _, FreshB.pair (FreshB.mknil _ _ _ 6) (Nat.le_refl _) _⟩, _, _, rfl⟩
  have q4' : ((4 : Int) < ord.length) = False := eq_false (by omega)
  have hgo : (doingsOk xs && decide ((ord.length : Int) ≤ 4)) = true := by rw [q, decide_eq_true q4]; rfl
  have hx60 : xs.length ≤ 60 := by
    have := q; simp only [doingsOk, Bool.and_eq_true, decide_eq_true_eq] at this; omega
  simp (disch := omega) only [q, q4', Ex_cond, go_sem, Nat.reduceEqDiff, Nat.reduceAdd, Nat.reduceLeDiff, reduceCtorEq, Int.reduceLT, Int.reduceLE, Int.reduceNeg, Int.reduceSub, Int.reduceAdd, Int.reduceToNat, ↓reduceIte]
  refine Ex_loop (fun n t h => ∃ k : Nat, t 0 = .list 0 6 (xs.map GDoing.cells) ∧ t 1 = .list 0 1 (ord.map cInt) ∧ t 21 = .list 0 1 (ord.map cInt) ∧ t 22 = .val (.int .i64 ord.length) ∧ t 23 = .val (.int .i64 k) ∧ h = h0 ∧ n = ord.length - k ∧ k ≤ ord.length ∧ ordFrom [] ord = ordFrom (ord.take k) (ord.drop k)) ord.length ⟨0, rfl, rfl, rfl, rfl, rfl, rfl, rfl, Nat.zero_le _, rfl⟩ ?_
  rintro J hJ n t h ⟨k, t0, t1, t21, t22, t23, rfl, rfl, hk, hO⟩
  by_cases hlt : k < ord.length
  · rw [ordFrom_at ord hlt] at hO
    simp (disch := omega) only [t0, t1, t21, t22, t23, hlt, Ex_cond, go_sem, Nat.reduceEqDiff, Nat.reduceAdd, Nat.reduceLeDiff, reduceCtorEq, Int.reduceLT, Int.reduceLE, Int.reduceNeg, Int.reduceSub, Int.reduceAdd, Int.reduceToNat, ↓reduceIte]
    refine PureCall.call (impl_jobOk_ok ord[k] _) ?_
    by_cases j1 : within ord[k] 1 4 = true
    case neg =>
      have j1' : within ord[k] 1 4 = false := by simpa using j1
      simp (disch := omega) only [t0, t1, t21, t22, t23, j1', hlt, Ex_cond, go_sem, Nat.reduceEqDiff, Nat.reduceAdd, Nat.reduceLeDiff, reduceCtorEq, Int.reduceLT, Int.reduceLE, Int.reduceNeg, Int.reduceSub, Int.reduceAdd, Int.reduceToNat, ↓reduceIte]
      rw [arr_bad hgo (by rw [hO, j1']; rfl)]
      exact ⟨⟨More.refl _, FreshB.pair (FreshB.mknil _ _ _ 6) (Nat.le_refl _) _⟩, _, _, rfl⟩
    simp (disch := omega) only [t0, t1, t21, t22, t23, j1, hlt, Ex_cond, go_sem, Nat.reduceEqDiff, Nat.reduceAdd, Nat.reduceLeDiff, reduceCtorEq, Int.reduceLT, Int.reduceLE, Int.reduceNeg, Int.reduceSub, Int.reduceAdd, Int.reduceToNat, ↓reduceIte]
    refine PureCall.call (has_take ord[k] (by omega) _ (fun ys hy h => slices_Contains_int64_ok ys _ hy h) _) ?_
    by_cases j2 : hasI (ord.take k) ord[k] = true
    case pos =>
      simp (disch := omega) only [t0, t1, t21, t22, t23, j1, j2, hlt, Ex_cond, go_sem, Nat.reduceEqDiff, Nat.reduceAdd, Nat.reduceLeDiff, reduceCtorEq, Int.reduceLT, Int.reduceLE, Int.reduceNeg, Int.reduceSub, Int.reduceAdd, Int.reduceToNat, ↓reduceIte]
      rw [arr_bad hgo (by rw [hO, j1, j2]; rfl)]
      exact ⟨⟨More.refl _, FreshB.pair (FreshB.mknil _ _ _ 6) (Nat.le_refl _) _⟩, _, _, rfl⟩
    have j2' : hasI (ord.take k) ord[k] = false := by simpa using j2
    simp (disch := omega) only [t0, t1, t21, t22, t23, j1, j2', hlt, Ex_cond, go_sem, Nat.reduceEqDiff, Nat.reduceAdd, Nat.reduceLeDiff, reduceCtorEq, Int.reduceLT, Int.reduceLE, Int.reduceNeg, Int.reduceSub, Int.reduceAdd, Int.reduceToNat, ↓reduceIte]
    exact ⟨ord.length - (k + 1), by omega, hJ _ _ _ ⟨k + 1, by simp [upd, t0], by simp [upd, t1], by simp [upd, t21], by simp [upd, t22], by simp [upd], rfl, rfl, by omega, by rw [hO, j1, j2']; rfl⟩⟩
  have hO' : ordFrom [] ord = true := by rw [hO, List.drop_eq_nil_of_le (by omega)]; rfl
  have hnd : ord.Nodup := by simpa using ordFrom_nodup ord [] hO' List.nodup_nil
  simp (disch := omega) only [t0, t1, t21, t22, t23, hlt, Ex_cond, go_sem, Nat.reduceEqDiff, Nat.reduceAdd, Nat.reduceLeDiff, reduceCtorEq, Int.reduceLT, Int.reduceLE, Int.reduceNeg, Int.reduceSub, Int.reduceAdd, Int.reduceToNat, ↓reduceIte]
  clear hJ hO hk
  skip
  refine Ex_loop (fun n t g => ∃ (k : Nat) (done : List (List AV)), t 0 = .list 0 6 (xs.map GDoing.cells) ∧ t 1 = .list 0 1 (ord.map cInt) ∧ t 8 = .own h.length done.length ∧ t 40 = .list 0 1 (ord.map cInt) ∧ t 41 = .val (.int .i64 ord.length) ∧ t 42 = .val (.int .i64 k) ∧ More h g ∧ GrowAt h.length g 91 6 done ((flatJ xs (ord.take k)).map GDoing.cells) ∧ done.length = (flatJ xs (ord.take k)).length ∧ n = ord.length - k ∧ k ≤ ord.length) ord.length ⟨0, [], by simp [upd, t0], by simp [upd, t1], rfl, by simp [upd, t1], by simp [upd], by simp [upd], More.app _ _, GrowAt.zero (by rw [getA0]; rfl), rfl, rfl, Nat.zero_le _⟩ ?_
  clear t0 t1 t21 t22 t23
  rintro J hJ n t g ⟨k, done, t0, t1, t8, t40, t41, t42, hM, hG, hd, rfl, hk⟩
  have o3 := hG.row
  have w3 := fun l => get_old (l := l) o3
  have ml := hM.len
  have gl := hG.lt
  by_cases hlt : k < ord.length
  · simp (disch := omega) only [t0, t1, t8, t40, t41, t42, hlt, cInt, Ex_cond, go_sem, Nat.reduceEqDiff, Nat.reduceAdd, Nat.reduceLeDiff, reduceCtorEq, Int.reduceLT, Int.reduceLE, Int.reduceNeg, Int.reduceSub, Int.reduceAdd, Int.reduceToNat, ↓reduceIte]
    refine Ex_loop (fun n t g => ∃ (i : Nat) (done : List (List AV)), t 0 = .list 0 6 (xs.map GDoing.cells) ∧ t 1 = .list 0 1 (ord.map cInt) ∧ t 8 = .own h.length done.length ∧ t 40 = .list 0 1 (ord.map cInt) ∧ t 41 = .val (.int .i64 ord.length) ∧ t 42 = .val (.int .i64 k) ∧ t 10 = .val (.int .i64 ord[k]) ∧ t 46 = .list 0 6 (xs.map GDoing.cells) ∧ t 47 = .val (.int .i64 xs.length) ∧ t 48 = .val (.int .i64 i) ∧ More h g ∧ GrowAt h.length g 91 6 done ((flatJ xs (ord.take k) ++ ofJob (xs.take i) ord[k]).map GDoing.cells) ∧ done.length = (flatJ xs (ord.take k) ++ ofJob (xs.take i) ord[k]).length ∧ n = xs.length - i ∧ i ≤ xs.length) xs.length ⟨0, done, by simp [upd, t0], by simp [upd, t1], by simp [upd, t8], by simp [upd, t40], by simp [upd, t41], by simp [upd, t42], by simp [upd], by simp [upd, t0], by simp [upd], by simp [upd], hM, by simpa [ofJob] using hG, by simpa [ofJob] using hd, rfl, Nat.zero_le _⟩ ?_
    clear t0 t1 t8 t40 t41 t42 hM hG hd o3 w3 ml gl
    rintro J' hJ' n t g ⟨i, done, t0, t1, t8, t40, t41, t42, t10, t46, t47, t48, hM, hG, hd, rfl, hi⟩
    have o3 := hG.row
    have w3 := fun l => get_old (l := l) o3
    have ml := hM.len
    have gl := hG.lt
    have hG' := fun r : Row => hG.more (H' := g ++ [r]) (by simp) (fun y q1 q2 => List.getElem?_append_left q2)
    have b1 := flatJ_most xs (ord.take k)
    have b2 : (ord.take k).length * xs.length ≤ 4 * 60 := Nat.mul_le_mul (by rw [List.length_take]; omega) hx60
    have b3 : (ofJob (xs.take i) ord[k]).length ≤ xs.length := Nat.le_trans (List.length_filter_le _ _) (by rw [List.length_take]; omega)
    have b4 : done.length ≤ 300 := by rw [hd, List.length_append]; omega
    by_cases hlt2 : i < xs.length
    · by_cases e : xs[i].Job = ord[k]
      · have eT : (xs[i].Job = ord[k]) = True := eq_true e
        simp (disch := omega) only [t0, t1, t8, t40, t41, t42, t10, t46, t47, t48, o3, w3, hlt, hlt2, eT, cInt, GDoing.cells, afill, Option.map_some, Ex_cond, go_sem, Nat.reduceEqDiff, Nat.reduceAdd, Nat.reduceLeDiff, reduceCtorEq, Int.reduceLT, Int.reduceLE, Int.reduceNeg, Int.reduceSub, Int.reduceAdd, Int.reduceToNat, ↓reduceIte]
        refine fresh_plain (impl_copyEvent_fresh xs[i].Event (GDoing.sz_Event (hm _ (List.getElem_mem hlt2)))) (fun av H1 m1 F1 q1 => ?_)
        obtain ⟨l, rfl⟩ := q1
        have p3 := m1.at (get_old o3)
        have v3 := fun l => get_old (l := l) p3
        have l1 := m1.len
        simp only [List.length_append, List.length_cons, List.length_nil] at l1
        simp (disch := omega) only [t0, t1, t8, t40, t41, t42, t10, t46, t47, t48, p3, v3, hlt, hlt2, cInt, GDoing.cells, afill, Option.map_some, set_app1, set_app2, List.set_append_left, Ex_cond, go_sem, Nat.reduceEqDiff, Nat.reduceAdd, Nat.reduceLeDiff, reduceCtorEq, Int.reduceLT, Int.reduceLE, Int.reduceNeg, Int.reduceSub, Int.reduceAdd, Int.reduceToNat, ↓reduceIte]
        refine ⟨by omega, by omega, xs.length - (i + 1), by omega, hJ' _ _ _ ⟨i + 1, done ++ [[.val (.int .i64 ord[k]), .val (.int .i64 xs[i].Event.Kind), .val (.string xs[i].Event.Name), .own l xs[i].Event.Subs.length, .val (.string xs[i].Event.Value), .val (.int .i64 xs[i].Event.N)]], by simp [upd, t0], by simp [upd, t1], by simp [upd], by simp [upd, t40], by simp [upd, t41], by simp [upd, t42], by simp [upd, t10], by simp [upd, t46], by simp [upd, t47], by simp [upd], ?_, ?_, ?_, rfl, by omega⟩⟩
        · exact (((hM.add _).trans m1).set (by omega)).add _
        · rw [ofJob_succ hlt2 e, ← List.append_assoc, List.map_append]
          refine GrowAt.step (hG' _) (doing_fb e F1.tree.unagg) m1.len (fun y q1 q2 => m1.kept y q2) ?_ (fun y q1 q2 => ?_) ?_
          · simp
          · rw [List.getElem?_append_left, List.getElem?_set_ne (by omega)]
            rw [List.length_set]; exact q2
          · exact get_old (set_at p3 _)
        · rw [ofJob_succ hlt2 e, ← List.append_assoc]; simp [hd]; try omega
      · have eF : (xs[i].Job = ord[k]) = False := eq_false e
        simp (disch := omega) only [t0, t1, t8, t40, t41, t42, t10, t46, t47, t48, o3, w3, hlt, hlt2, eF, cInt, GDoing.cells, Ex_cond, go_sem, Nat.reduceEqDiff, Nat.reduceAdd, Nat.reduceLeDiff, reduceCtorEq, Int.reduceLT, Int.reduceLE, Int.reduceNeg, Int.reduceSub, Int.reduceAdd, Int.reduceToNat, ↓reduceIte]
        refine ⟨xs.length - (i + 1), by omega, hJ' _ _ _ ⟨i + 1, done, by simp [upd, t0], by simp [upd, t1], by simp [upd, t8], by simp [upd, t40], by simp [upd, t41], by simp [upd, t42], by simp [upd, t10], by simp [upd, t46], by simp [upd, t47], by simp [upd], hM.add _, ?_, ?_, rfl, by omega⟩⟩
        · rw [ofJob_same hlt2 e]
          exact hG' _
        · rw [ofJob_same hlt2 e]; exact hd
    · have ei : i = xs.length := by omega
      subst ei
      have ef : flatJ xs (ord.take k) ++ ofJob (xs.take xs.length) ord[k] = flatJ xs (ord.take (k + 1)) := by rw [List.take_length, List.take_succ_eq_append_getElem hlt, flatJ_snoc]
      rw [ef] at hG hd
      simp (disch := omega) only [t0, t1, t8, t40, t41, t42, t10, t46, t47, t48, hlt, hlt2, Ex_cond, go_sem, Nat.reduceEqDiff, Nat.reduceAdd, Nat.reduceLeDiff, reduceCtorEq, Int.reduceLT, Int.reduceLE, Int.reduceNeg, Int.reduceSub, Int.reduceAdd, Int.reduceToNat, ↓reduceIte]
      exact ⟨ord.length - (k + 1), by omega, hJ _ _ _ ⟨k + 1, done, by simp [upd, t0], by simp [upd, t1], by simp [upd, t8], by simp [upd, t40], by simp [upd, t41], by simp [upd], hM, hG, hd, rfl, by omega⟩⟩
  · have ek : k = ord.length := by omega
    subst ek
    rw [List.take_length] at hG hd
    have ha := flatJ_all xs ord hnd
    by_cases el : (flatJ xs ord).length = xs.length
    · have eT : ((done.length : Int) = xs.length) = True := eq_true (by omega)
      simp (disch := omega) only [t0, t1, t8, t40, t41, t42, o3, hlt, eT, Ex_cond, go_sem, Nat.reduceEqDiff, Nat.reduceAdd, Nat.reduceLeDiff, reduceCtorEq, Int.reduceLT, Int.reduceLE, Int.reduceNeg, Int.reduceSub, Int.reduceAdd, Int.reduceToNat, ↓reduceIte]
      rw [arr_ok hgo (by rw [hO', ← ha, decide_eq_true el]; rfl)]
      exact ⟨⟨hM, (hG.done rfl).pair (by omega) _⟩, _, _, rfl⟩
    · have eF : ((done.length : Int) = xs.length) = False := eq_false (by omega)
      simp (disch := omega) only [t0, t1, t8, t40, t41, t42, o3, hlt, eF, Ex_cond, go_sem, Nat.reduceEqDiff, Nat.reduceAdd, Nat.reduceLeDiff, reduceCtorEq, Int.reduceLT, Int.reduceLE, Int.reduceNeg, Int.reduceSub, Int.reduceAdd, Int.reduceToNat, ↓reduceIte]
      rw [arr_bad hgo (by rw [hO', ← ha, decide_eq_false el]; rfl)]
      exact ⟨⟨hM, FreshB.pair (FreshB.mknil _ _ _ 6) (by omega) _⟩, _, _, rfl⟩

theorem spec_Arranged_fresh (xs : List GDoing) (ord : List Int) (hs : szList GDoing.sz xs ≤ 1048576) (hord : ord.length ≤ 1048576) : FreshCall Tryz.prog 36 [.list 0 6 (xs.map GDoing.cells), .list 0 1 (ord.map cInt)] (doingsRes (arrangedR xs ord)) ArrQ := by
  refine fresh_fn2 mixed Tryz.func36 low_spec_Arranged rfl (fun h0 => ?_)
  have hl := szList_len hs
  have hm : ∀ e ∈ xs, GDoing.sz e ≤ 1048576 := fun e he => by have := szList_mem (f := GDoing.sz) he; omega
  simp (disch := omega) only [lf_spec_Arranged, c_spec_Arranged, Ex_cond, go_sem, Nat.reduceEqDiff, Nat.reduceAdd, Nat.reduceLeDiff, reduceCtorEq, Int.reduceLT, Int.reduceLE, Int.reduceNeg, Int.reduceSub, Int.reduceAdd, Int.reduceToNat, ↓reduceIte]
  refine PureCall.call (spec_DoingsOk_ok xs hs _) ?_
  by_cases q : doingsOk xs = true
  case neg =>
    have q' : doingsOk xs = false := by simpa using q
    simp (disch := omega) only [q', Ex_cond, go_sem, Nat.reduceEqDiff, Nat.reduceAdd, Nat.reduceLeDiff, reduceCtorEq, Int.reduceLT, Int.reduceLE, Int.reduceNeg, Int.reduceSub, Int.reduceAdd, Int.reduceToNat, ↓reduceIte]
    rw [arr_no (by rw [q', Bool.false_and])]
    exact ⟨⟨More.app _ _, FreshB.pair ((GrowAt.zero (by rw [getA0]; rfl)).done rfl) (by simp) _⟩, _, _, rfl⟩
  by_cases q4 : (ord.length : Int) ≤ 4
  case neg =>
    have q4' : ((4 : Int) < ord.length) = True := eq_true (by omega)
    simp (disch := omega) only [q, q4', Ex_cond, go_sem, Nat.reduceEqDiff, Nat.reduceAdd, Nat.reduceLeDiff, reduceCtorEq, Int.reduceLT, Int.reduceLE, Int.reduceNeg, Int.reduceSub, Int.reduceAdd, Int.reduceToNat, ↓reduceIte]
    rw [arr_no (by rw [decide_eq_false q4, Bool.and_false])]
    exact ⟨⟨More.app _ _, FreshB.pair ((GrowAt.zero (by rw [getA0]; rfl)).done rfl) (by simp) _⟩, _, _, rfl⟩
  have q4' : ((4 : Int) < ord.length) = False := eq_false (by omega)
  have hgo : (doingsOk xs && decide ((ord.length : Int) ≤ 4)) = true := by rw [q, decide_eq_true q4]; rfl
  have hx60 : xs.length ≤ 60 := by
    have := q; simp only [doingsOk, Bool.and_eq_true, decide_eq_true_eq] at this; omega
  simp (disch := omega) only [q, q4', Ex_cond, go_sem, Nat.reduceEqDiff, Nat.reduceAdd, Nat.reduceLeDiff, reduceCtorEq, Int.reduceLT, Int.reduceLE, Int.reduceNeg, Int.reduceSub, Int.reduceAdd, Int.reduceToNat, ↓reduceIte]
  refine Ex_loop (fun n t h => ∃ k : Nat, t 0 = .list 0 6 (xs.map GDoing.cells) ∧ t 1 = .list 0 1 (ord.map cInt) ∧ t 6 = .val (.int .i64 k) ∧ h = h0 ∧ n = ord.length - k ∧ k ≤ ord.length ∧ ordFrom [] ord = ordFrom (ord.take k) (ord.drop k)) ord.length ⟨0, rfl, rfl, rfl, rfl, rfl, Nat.zero_le _, rfl⟩ ?_
  rintro J hJ n t h ⟨k, t0, t1, t6, rfl, rfl, hk, hO⟩
  by_cases hlt : k < ord.length
  · rw [ordFrom_at ord hlt] at hO
    simp (disch := omega) only [t0, t1, t6, hlt, Ex_cond, go_sem, Nat.reduceEqDiff, Nat.reduceAdd, Nat.reduceLeDiff, reduceCtorEq, Int.reduceLT, Int.reduceLE, Int.reduceNeg, Int.reduceSub, Int.reduceAdd, Int.reduceToNat, ↓reduceIte]
    refine PureCall.q (spec_l24Job_ok ord[k] _) ?_
    by_cases j1 : within ord[k] 1 4 = true
    case neg =>
      have j1' : within ord[k] 1 4 = false := by simpa using j1
      simp (disch := omega) only [t0, t1, t6, j1', hlt, Ex_cond, go_sem, Nat.reduceEqDiff, Nat.reduceAdd, Nat.reduceLeDiff, reduceCtorEq, Int.reduceLT, Int.reduceLE, Int.reduceNeg, Int.reduceSub, Int.reduceAdd, Int.reduceToNat, ↓reduceIte]
      rw [arr_bad hgo (by rw [hO, j1']; rfl)]
      exact ⟨⟨More.app _ _, FreshB.pair ((GrowAt.zero (by rw [getA0]; rfl)).done rfl) (by simp) _⟩, _, _, rfl⟩
    simp (disch := omega) only [t0, t1, t6, j1, hlt, Ex_cond, go_sem, Nat.reduceEqDiff, Nat.reduceAdd, Nat.reduceLeDiff, reduceCtorEq, Int.reduceLT, Int.reduceLE, Int.reduceNeg, Int.reduceSub, Int.reduceAdd, Int.reduceToNat, ↓reduceIte]
    refine PureCall.q (has_take ord[k] (by omega) _ (fun ys hy h => spec_l00Has_ok ys _ hy h) _) ?_
    by_cases j2 : hasI (ord.take k) ord[k] = true
    case pos =>
      simp (disch := omega) only [t0, t1, t6, j1, j2, hlt, Ex_cond, go_sem, Nat.reduceEqDiff, Nat.reduceAdd, Nat.reduceLeDiff, reduceCtorEq, Int.reduceLT, Int.reduceLE, Int.reduceNeg, Int.reduceSub, Int.reduceAdd, Int.reduceToNat, ↓reduceIte]
      rw [arr_bad hgo (by rw [hO, j1, j2]; rfl)]
      exact ⟨⟨More.app _ _, FreshB.pair ((GrowAt.zero (by rw [getA0]; rfl)).done rfl) (by simp) _⟩, _, _, rfl⟩
    have j2' : hasI (ord.take k) ord[k] = false := by simpa using j2
    simp (disch := omega) only [t0, t1, t6, j1, j2', hlt, Ex_cond, go_sem, Nat.reduceEqDiff, Nat.reduceAdd, Nat.reduceLeDiff, reduceCtorEq, Int.reduceLT, Int.reduceLE, Int.reduceNeg, Int.reduceSub, Int.reduceAdd, Int.reduceToNat, ↓reduceIte]
    exact ⟨ord.length - (k + 1), by omega, hJ _ _ _ ⟨k + 1, by simp [upd, t0], by simp [upd, t1], by simp [upd], rfl, rfl, by omega, by rw [hO, j1, j2']; rfl⟩⟩
  have hO' : ordFrom [] ord = true := by rw [hO, List.drop_eq_nil_of_le (by omega)]; rfl
  have hnd : ord.Nodup := by simpa using ordFrom_nodup ord [] hO' List.nodup_nil
  simp (disch := omega) only [t0, t1, t6, hlt, Ex_cond, go_sem, Nat.reduceEqDiff, Nat.reduceAdd, Nat.reduceLeDiff, reduceCtorEq, Int.reduceLT, Int.reduceLE, Int.reduceNeg, Int.reduceSub, Int.reduceAdd, Int.reduceToNat, ↓reduceIte]
  clear hJ hO hk
  refine Ex_loop (fun n t g => ∃ k : Nat, t 0 = .list 0 6 (xs.map GDoing.cells) ∧ t 1 = .list 0 1 (ord.map cInt) ∧ t 7 = .val (.int .i64 k) ∧ h = g ∧ n = xs.length - k ∧ k ≤ xs.length ∧ (xs.all fun d => hasI ord d.Job) = (xs.drop k).all fun d => hasI ord d.Job) xs.length ⟨0, by simp [upd, t0], by simp [upd, t1], rfl, rfl, rfl, Nat.zero_le _, rfl⟩ ?_
  clear t0 t1 t6
  rintro J hJ n t g ⟨k, t0, t1, t7, rfl, rfl, hk, hA⟩
  by_cases hlt3 : k < xs.length
  · rw [all_drop (fun d : GDoing => hasI ord d.Job) xs k hlt3] at hA
    simp (disch := omega) only [t0, t1, t7, hlt3, GDoing.cells, Ex_cond, go_sem, Nat.reduceEqDiff, Nat.reduceAdd, Nat.reduceLeDiff, reduceCtorEq, Int.reduceLT, Int.reduceLE, Int.reduceNeg, Int.reduceSub, Int.reduceAdd, Int.reduceToNat, ↓reduceIte]
    refine PureCall.call (spec_l00Has_ok ord _ hord _) ?_
    by_cases j2 : hasI ord xs[k].Job = true
    case neg =>
      have j2' : hasI ord xs[k].Job = false := by simpa using j2
      simp (disch := omega) only [t0, t1, t7, j2', hlt3, Ex_cond, go_sem, Nat.reduceEqDiff, Nat.reduceAdd, Nat.reduceLeDiff, reduceCtorEq, Int.reduceLT, Int.reduceLE, Int.reduceNeg, Int.reduceSub, Int.reduceAdd, Int.reduceToNat, ↓reduceIte]
      rw [arr_bad hgo (by rw [hA, j2']; simp)]
      exact ⟨⟨More.app _ _, FreshB.pair ((GrowAt.zero (by rw [getA0]; rfl)).done rfl) (by simp) _⟩, _, _, rfl⟩
    simp (disch := omega) only [t0, t1, t7, j2, hlt3, Ex_cond, go_sem, Nat.reduceEqDiff, Nat.reduceAdd, Nat.reduceLeDiff, reduceCtorEq, Int.reduceLT, Int.reduceLE, Int.reduceNeg, Int.reduceSub, Int.reduceAdd, Int.reduceToNat, ↓reduceIte]
    exact ⟨xs.length - (k + 1), by omega, hJ _ _ _ ⟨k + 1, by simp [upd, t0], by simp [upd, t1], by simp [upd], rfl, rfl, by omega, by rw [hA, j2]; rfl⟩⟩
  have hall : (xs.all fun d => hasI ord d.Job) = true := by rw [hA, List.drop_eq_nil_of_le (by omega)]; rfl
  simp (disch := omega) only [t0, t1, t7, hlt3, Ex_cond, go_sem, Nat.reduceEqDiff, Nat.reduceAdd, Nat.reduceLeDiff, reduceCtorEq, Int.reduceLT, Int.reduceLE, Int.reduceNeg, Int.reduceSub, Int.reduceAdd, Int.reduceToNat, ↓reduceIte]
  clear hJ hA hk
  have t6 := t7
  refine Ex_loop (fun n t g => ∃ (k : Nat) (done : List (List AV)), t 0 = .list 0 6 (xs.map GDoing.cells) ∧ t 1 = .list 0 1 (ord.map cInt) ∧ t 8 = .own h.length done.length ∧ t 9 = .val (.int .i64 k) ∧ More h g ∧ GrowAt h.length g 91 6 done ((flatJ xs (ord.take k)).map GDoing.cells) ∧ done.length = (flatJ xs (ord.take k)).length ∧ n = ord.length - k ∧ k ≤ ord.length) ord.length ⟨0, [], by simp [upd, t0], by simp [upd, t1], rfl, rfl, More.app _ _, GrowAt.zero (by rw [getA0]; rfl), rfl, rfl, Nat.zero_le _⟩ ?_
  clear t0 t1 t6
  rintro J hJ n t g ⟨k, done, t0, t1, t8, t9, hM, hG, hd, rfl, hk⟩
  have o3 := hG.row
  have w3 := fun l => get_old (l := l) o3
  have ml := hM.len
  have gl := hG.lt
  by_cases hlt : k < ord.length
  · simp (disch := omega) only [t0, t1, t8, t9, hlt, cInt, Ex_cond, go_sem, Nat.reduceEqDiff, Nat.reduceAdd, Nat.reduceLeDiff, reduceCtorEq, Int.reduceLT, Int.reduceLE, Int.reduceNeg, Int.reduceSub, Int.reduceAdd, Int.reduceToNat, ↓reduceIte]
    refine Ex_loop (fun n t g => ∃ (i : Nat) (done : List (List AV)), t 0 = .list 0 6 (xs.map GDoing.cells) ∧ t 1 = .list 0 1 (ord.map cInt) ∧ t 8 = .own h.length done.length ∧ t 9 = .val (.int .i64 k) ∧ t 10 = .val (.int .i64 i) ∧ More h g ∧ GrowAt h.length g 91 6 done ((flatJ xs (ord.take k) ++ ofJob (xs.take i) ord[k]).map GDoing.cells) ∧ done.length = (flatJ xs (ord.take k) ++ ofJob (xs.take i) ord[k]).length ∧ n = xs.length - i ∧ i ≤ xs.length) xs.length ⟨0, done, by simp [upd, t0], by simp [upd, t1], by simp [upd, t8], by simp [upd, t9], by simp [upd], hM, by simpa [ofJob] using hG, by simpa [ofJob] using hd, rfl, Nat.zero_le _⟩ ?_
    clear t0 t1 t8 t9 hM hG hd o3 w3 ml gl
    rintro J' hJ' n t g ⟨i, done, t0, t1, t8, t9, t10, hM, hG, hd, rfl, hi⟩
    have o3 := hG.row
    have w3 := fun l => get_old (l := l) o3
    have ml := hM.len
    have gl := hG.lt
    have hG' := fun r : Row => hG.more (H' := g ++ [r]) (by simp) (fun y q1 q2 => List.getElem?_append_left q2)
    have b1 := flatJ_most xs (ord.take k)
    have b2 : (ord.take k).length * xs.length ≤ 4 * 60 := Nat.mul_le_mul (by rw [List.length_take]; omega) hx60
    have b3 : (ofJob (xs.take i) ord[k]).length ≤ xs.length := Nat.le_trans (List.length_filter_le _ _) (by rw [List.length_take]; omega)
    have b4 : done.length ≤ 300 := by rw [hd, List.length_append]; omega
    by_cases hlt2 : i < xs.length
    · by_cases e : xs[i].Job = ord[k]
      · have eT : (xs[i].Job = ord[k]) = True := eq_true e
        simp (disch := omega) only [t0, t1, t8, t9, t10, o3, w3, hlt, hlt2, eT, cInt, GDoing.cells, afill, Option.map_some, Ex_cond, go_sem, Nat.reduceEqDiff, Nat.reduceAdd, Nat.reduceLeDiff, reduceCtorEq, Int.reduceLT, Int.reduceLE, Int.reduceNeg, Int.reduceSub, Int.reduceAdd, Int.reduceToNat, ↓reduceIte]
        refine fresh_plain (spec_l25Own_fresh xs[i].Event (GDoing.sz_Event (hm _ (List.getElem_mem hlt2)))) (fun av H1 m1 F1 q1 => ?_)
        obtain ⟨l, rfl⟩ := q1
        have p3 := m1.at (o3)
        have v3 := fun l => get_old (l := l) p3
        have l1 := m1.len
        skip
        simp (disch := omega) only [t0, t1, t8, t9, t10, p3, v3, hlt, hlt2, cInt, GDoing.cells, afill, Option.map_some, set_app1, set_app2, List.set_append_left, Ex_cond, go_sem, Nat.reduceEqDiff, Nat.reduceAdd, Nat.reduceLeDiff, reduceCtorEq, Int.reduceLT, Int.reduceLE, Int.reduceNeg, Int.reduceSub, Int.reduceAdd, Int.reduceToNat, ↓reduceIte]
        refine ⟨by omega, by omega, xs.length - (i + 1), by omega, hJ' _ _ _ ⟨i + 1, done ++ [[.val (.int .i64 xs[i].Job), .val (.int .i64 xs[i].Event.Kind), .val (.string xs[i].Event.Name), .own l xs[i].Event.Subs.length, .val (.string xs[i].Event.Value), .val (.int .i64 xs[i].Event.N)]], by simp [upd, t0], by simp [upd, t1], by simp [upd], by simp [upd, t9], by simp [upd], ?_, ?_, ?_, rfl, by omega⟩⟩
        · exact (((hM).trans m1).set (by omega)).add _
        · rw [ofJob_succ hlt2 e, ← List.append_assoc, List.map_append]
          refine GrowAt.step (hG) (doing_fb rfl F1.tree.unagg) m1.len (fun y q1 q2 => m1.kept y q2) ?_ (fun y q1 q2 => ?_) ?_
          · simp
          · rw [List.getElem?_append_left, List.getElem?_set_ne (by omega)]
            rw [List.length_set]; exact q2
          · exact get_old (set_at p3 _)
        · rw [ofJob_succ hlt2 e, ← List.append_assoc]; simp [hd]; try omega
      · have eF : (xs[i].Job = ord[k]) = False := eq_false e
        simp (disch := omega) only [t0, t1, t8, t9, t10, o3, w3, hlt, hlt2, eF, cInt, GDoing.cells, Ex_cond, go_sem, Nat.reduceEqDiff, Nat.reduceAdd, Nat.reduceLeDiff, reduceCtorEq, Int.reduceLT, Int.reduceLE, Int.reduceNeg, Int.reduceSub, Int.reduceAdd, Int.reduceToNat, ↓reduceIte]
        refine ⟨xs.length - (i + 1), by omega, hJ' _ _ _ ⟨i + 1, done, by simp [upd, t0], by simp [upd, t1], by simp [upd, t8], by simp [upd, t9], by simp [upd], hM, ?_, ?_, rfl, by omega⟩⟩
        · rw [ofJob_same hlt2 e]
          exact hG
        · rw [ofJob_same hlt2 e]; exact hd
    · have ei : i = xs.length := by omega
      subst ei
      have ef : flatJ xs (ord.take k) ++ ofJob (xs.take xs.length) ord[k] = flatJ xs (ord.take (k + 1)) := by rw [List.take_length, List.take_succ_eq_append_getElem hlt, flatJ_snoc]
      rw [ef] at hG hd
      simp (disch := omega) only [t0, t1, t8, t9, t10, hlt, hlt2, Ex_cond, go_sem, Nat.reduceEqDiff, Nat.reduceAdd, Nat.reduceLeDiff, reduceCtorEq, Int.reduceLT, Int.reduceLE, Int.reduceNeg, Int.reduceSub, Int.reduceAdd, Int.reduceToNat, ↓reduceIte]
      exact ⟨ord.length - (k + 1), by omega, hJ _ _ _ ⟨k + 1, done, by simp [upd, t0], by simp [upd, t1], by simp [upd, t8], by simp [upd], hM, hG, hd, rfl, by omega⟩⟩
  · have ek : k = ord.length := by omega
    subst ek
    rw [List.take_length] at hG hd
    have ha := flatJ_all xs ord hnd
    simp (disch := omega) only [t0, t1, t8, t9, o3, hlt, Ex_cond, go_sem, Nat.reduceEqDiff, Nat.reduceAdd, Nat.reduceLeDiff, reduceCtorEq, Int.reduceLT, Int.reduceLE, Int.reduceNeg, Int.reduceSub, Int.reduceAdd, Int.reduceToNat, ↓reduceIte]
    rw [arr_ok hgo (by rw [hO', hall]; rfl)]
    exact ⟨⟨hM, (hG.done rfl).pair (by omega) _⟩, _, _, rfl⟩

theorem spec_Arranged_ok (xs : List GDoing) (ord : List Int) (hs : szList GDoing.sz xs ≤ 1048576) (hord : ord.length ≤ 1048576) (h : List Row) : PureCall Tryz.prog 36 [.list 0 6 (xs.map GDoing.cells), .list 0 1 (ord.map cInt)] h (doingsRes (arrangedR xs ord)) := (spec_Arranged_fresh xs ord hs hord).pure rfl h
end Go.Proofs.YtleolgjneaekcabGreatDoor
