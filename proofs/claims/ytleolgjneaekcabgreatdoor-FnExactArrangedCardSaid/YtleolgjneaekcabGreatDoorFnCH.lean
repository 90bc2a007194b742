/-
  Contracts of functions of this program, over abstract values. Conditions: as each theorem says.
-/
import Derived.Test.YtleolgjneaekcabGreatDoorFnCG
namespace Go.Proofs.YtleolgjneaekcabGreatDoor
open Go.AW
set_option linter.unusedVariables false
set_option linter.unusedSimpArgs false
set_option maxRecDepth 4000

def chsOf (xs : List GEvent) : List GChange := (xs.filter turnsOf).map chOf
theorem chsOf_succ {xs : List GEvent} {k : Nat} (hlt : k < xs.length) (h : turnsOf xs[k] = true) : chsOf (xs.take (k + 1)) = chsOf (xs.take k) ++ [chOf xs[k]] := by
  unfold chsOf; rw [List.take_succ_eq_append_getElem hlt, List.filter_append, List.map_append]; simp only [List.filter_cons, List.filter_nil, h, if_true, Bool.false_eq_true, if_false, List.map_cons, List.map_nil, List.append_nil]
theorem chsOf_same {xs : List GEvent} {k : Nat} (hlt : k < xs.length) (h : turnsOf xs[k] = false) : chsOf (xs.take (k + 1)) = chsOf (xs.take k) := by
  unfold chsOf; rw [List.take_succ_eq_append_getElem hlt, List.filter_append, List.map_append]; simp only [List.filter_cons, List.filter_nil, h, if_true, Bool.false_eq_true, if_false, List.map_cons, List.map_nil, List.append_nil]
theorem chsOf_len (xs : List GEvent) (k : Nat) : (chsOf (xs.take k)).length ≤ k := by
  simp only [chsOf, List.length_map]
  exact Nat.le_trans (List.length_filter_le _ _) (by simp; omega)
def c_impl_changesOf : LC :=
 .seq (.ops [⟨some 2, none, .mov (.const (.slice none 0 0))⟩]) (.seq (.ops [⟨some 6, none, .buildSlice 27 4 (.agg #[.int .i64 0, .string ⟨#[]⟩, .slice none 0 0, .string ⟨#[]⟩]) 0 []⟩, ⟨some 3, none, .mov (.tmp 6)⟩]) (.seq
 (.seq (.ops [⟨some 7, none, .mov (.tmp 0)⟩, ⟨some 8, none, .lenSl (.tmp 7)⟩, ⟨some 9, none, .mov (.const (.int .i64 0))⟩]) (.block 0 (.loop (.seq (.ops [⟨some 10, none, .bin .lss false (.tmp 9) (.tmp 8)⟩]) (.seq (.cond
 (.tmp 10) (.skip) (.exit 0)) (.seq (.block 1 (.seq (.ops [⟨some 11, none, .indexAddr 5 (.tmp 7) (.tmp 9)⟩, ⟨some 12, none, .load (some 5) (.tmp 11)⟩, ⟨some 5, none, .alloc 30 (.agg #[.int .i64 0, .string ⟨#[]⟩, .slice
 none 0 0, .string ⟨#[]⟩, .int .i64 0])⟩, ⟨none, none, .store 5 (.tmp 5) (.tmp 12)⟩]) (.seq (.ops [⟨some 13, none, .load (some 5) (.tmp 5)⟩, ⟨some 14, none, .call 93 [.tmp 13]⟩]) (.cond (.tmp 14) (.ops [⟨some 15, none,
 .mov (.tmp 3)⟩, ⟨some 16, none, .load (some 5) (.tmp 5)⟩, ⟨some 17, none, .call 52 [.tmp 16]⟩, ⟨some 18, none, .buildSlice 27 4 (.agg #[.int .i64 0, .string ⟨#[]⟩, .slice none 0 0, .string ⟨#[]⟩]) 1 [(0, .tmp 17)]⟩, ⟨some
 19, none, .append 27 4 64 (.tmp 15) (.tmp 18)⟩, ⟨some 3, none, .mov (.tmp 19)⟩]) (.skip))))) (.ops [⟨some 20, none, .bin .add false (.tmp 9) (.const (.int .i64 1))⟩, ⟨some 9, none, .mov (.tmp 20)⟩]))))))) (.seq (.ops
 [⟨some 21, none, .mov (.tmp 3)⟩, ⟨some 2, none, .mov (.tmp 21)⟩]) (.ret))))
def lf_impl_changesOf : LF := { np := 1, N := 22, body := c_impl_changesOf, res := [.tmp 2] }
theorem low_impl_changesOf : LowF Tryz.prog Tryz.f62 lf_impl_changesOf := LowF.mk' (by kernel_rfl) (by kernel_rfl) (by kernel_rfl) (by decide)

def c_spec_l25Changes : LC :=
 .seq (.ops [⟨some 2, none, .mov (.const (.slice none 0 0))⟩]) (.seq (.ops [⟨some 5, none, .buildSlice 27 4 (.agg #[.int .i64 0, .string ⟨#[]⟩, .slice none 0 0, .string ⟨#[]⟩]) 0 []⟩, ⟨some 3, none, .mov (.tmp 5)⟩]) (.seq
 (.seq (.ops [⟨some 4, none, .mov (.const (.int .i64 0))⟩]) (.block 0 (.loop (.seq (.seq (.ops [⟨some 6, none, .mov (.tmp 4)⟩, ⟨some 7, none, .mov (.tmp 0)⟩, ⟨some 8, none, .lenSl (.tmp 7)⟩, ⟨some 9, none, .bin .lss false
 (.tmp 6) (.tmp 8)⟩]) (.cond (.tmp 9) (.skip) (.exit 0))) (.seq (.block 1 (.seq (.ops [⟨some 12, none, .mov (.tmp 0)⟩, ⟨some 13, none, .mov (.tmp 4)⟩, ⟨some 14, none, .indexAddr 5 (.tmp 12) (.tmp 13)⟩, ⟨some 15, none,
 .load (some 5) (.tmp 14)⟩, ⟨some 16, none, .call 77 [.tmp 15]⟩]) (.cond (.tmp 16) (.ops [⟨some 17, none, .mov (.tmp 3)⟩, ⟨some 18, none, .mov (.tmp 0)⟩, ⟨some 19, none, .mov (.tmp 4)⟩, ⟨some 20, none, .indexAddr 5 (.tmp
 18) (.tmp 19)⟩, ⟨some 21, none, .load (some 5) (.tmp 20)⟩, ⟨some 22, none, .call 48 [.tmp 21]⟩, ⟨some 23, none, .buildSlice 27 4 (.agg #[.int .i64 0, .string ⟨#[]⟩, .slice none 0 0, .string ⟨#[]⟩]) 1 [(0, .tmp 22)]⟩,
 ⟨some 24, none, .append 27 4 64 (.tmp 17) (.tmp 23)⟩, ⟨some 3, none, .mov (.tmp 24)⟩]) (.skip)))) (.ops [⟨some 10, none, .mov (.tmp 4)⟩, ⟨some 11, none, .bin .add false (.tmp 10) (.const (.int .i64 1))⟩, ⟨some 4, none,
 .mov (.tmp 11)⟩])))))) (.seq (.ops [⟨some 25, none, .mov (.tmp 3)⟩, ⟨some 2, none, .mov (.tmp 25)⟩]) (.ret))))
def lf_spec_l25Changes : LF := { np := 1, N := 26, body := c_spec_l25Changes, res := [.tmp 2] }
theorem low_spec_l25Changes : LowF Tryz.prog Tryz.f60 lf_spec_l25Changes := LowF.mk' (by kernel_rfl) (by kernel_rfl) (by kernel_rfl) (by decide)

theorem spec_l25Changes_fresh (xs : List GEvent) (hs : szList GEvent.sz xs ≤ 1048576) : FreshCall Tryz.prog 60 [.list 0 5 (xs.map GEvent.cells)] (.list 0 4 ((chsOf xs).map GChange.cells)) (fun a => ∃ l, a = .own l (chsOf xs).length) := by
  refine fresh_fn2 mixed Tryz.func60 low_spec_l25Changes rfl (fun h0 => ?_)
  have hl := szList_len hs
  have hm : ∀ e ∈ xs, GEvent.sz e ≤ 1048576 := fun e he => by have := szList_mem (f := GEvent.sz) he; omega
  simp (disch := omega) only [lf_spec_l25Changes, c_spec_l25Changes, Ex_cond, go_sem, Nat.reduceEqDiff, Nat.reduceAdd, Nat.reduceLeDiff, reduceCtorEq, Int.reduceLT, Int.reduceLE, Int.reduceNeg, Int.reduceSub, Int.reduceAdd, Int.reduceToNat, ↓reduceIte]
  refine Ex_loop (fun n t h => ∃ (k : Nat) (done : List (List AV)), t 0 = .list 0 5 (xs.map GEvent.cells) ∧ t 3 = .own h0.length done.length ∧ t 4 = .val (.int .i64 k) ∧ More h0 h ∧ GrowAt h0.length h 27 4 done ((chsOf (xs.take k)).map GChange.cells) ∧ done.length = (chsOf (xs.take k)).length ∧ n = xs.length - k ∧ k ≤ xs.length) xs.length ?_ ?_
  · exact ⟨0, [], rfl, rfl, rfl, More.app _ _, GrowAt.zero (by rw [getA0]; rfl), rfl, rfl, Nat.zero_le _⟩
  rintro J hJ n t h ⟨k, done, t0, t3, tk, hM, hG, hd, rfl, hk⟩
  have o3 := hG.row
  by_cases hlt : k < xs.length
  · have w3 := fun l => get_old (l := l) o3
    have ml := hM.len
    have gl := hG.lt
    have hcl := chsOf_len xs k
    have hG' := fun r : Row => hG.more (H' := h ++ [r]) (by simp) (fun y q1 q2 => List.getElem?_append_left q2)
    simp (disch := omega) only [t0, t3, tk, o3, w3, hlt, GEvent.cells, Ex_cond, go_sem, Nat.reduceEqDiff, Nat.reduceAdd, Nat.reduceLeDiff, reduceCtorEq, Int.reduceLT, Int.reduceLE, Int.reduceNeg, Int.reduceSub, Int.reduceAdd, Int.reduceToNat, ↓reduceIte]
    refine PureCall.call (spec_TurnsOf_ok xs[k] _) ?_
    by_cases hT : turnsOf xs[k] = true
    · simp (disch := omega) only [t0, t3, tk, o3, w3, hT, hlt, GEvent.cells, Ex_cond, go_sem, Nat.reduceEqDiff, Nat.reduceAdd, Nat.reduceLeDiff, reduceCtorEq, Int.reduceLT, Int.reduceLE, Int.reduceNeg, Int.reduceSub, Int.reduceAdd, Int.reduceToNat, ↓reduceIte]
      refine fresh_plain (spec_l25Change_fresh xs[k] (hm _ (List.getElem_mem hlt))) (fun av H1 m1 F1 q1 => ?_)
      obtain ⟨kk, l, rfl⟩ := q1
      have p3 := m1.at (o3)
      have v3 := fun l => get_old (l := l) p3
      have l1 := m1.len
      skip
      simp (disch := omega) only [t0, t3, tk, p3, v3, set_app1, set_app2, List.set_append_left, Ex_cond, go_sem, Nat.reduceEqDiff, Nat.reduceAdd, Nat.reduceLeDiff, reduceCtorEq, Int.reduceLT, Int.reduceLE, Int.reduceNeg, Int.reduceSub, Int.reduceAdd, Int.reduceToNat, ↓reduceIte]
      refine ⟨by omega, by omega, xs.length - (k + 1), by omega, hJ _ _ _ ⟨k + 1, done ++ [[.val (.int .i64 kk), .val (.string xs[k].Name), .own l xs[k].Subs.length, .val (.string xs[k].Value)]], by simp [upd, t0], by simp [upd], by simp [upd], ?_, ?_, ?_, rfl, by omega⟩⟩
      · exact (((hM).trans m1).set (by omega)).add _
      · rw [chsOf_succ hlt hT, List.map_append]
        refine (hG).step F1.tree.unagg m1.len (fun y q1 q2 => m1.kept y q2) (by simp) (fun y q1 q2 => ?_) ?_
        · rw [List.getElem?_append_left (by simpa using q2), List.getElem?_set_ne (by omega)]
        · exact get_old (set_at p3 _)
      · rw [chsOf_succ hlt hT]; simp [hd]
    · have hT' : turnsOf xs[k] = false := by simpa using hT
      simp (disch := omega) only [t0, t3, tk, o3, w3, hT', hlt, GEvent.cells, Ex_cond, go_sem, Nat.reduceEqDiff, Nat.reduceAdd, Nat.reduceLeDiff, reduceCtorEq, Int.reduceLT, Int.reduceLE, Int.reduceNeg, Int.reduceSub, Int.reduceAdd, Int.reduceToNat, ↓reduceIte]
      refine ⟨xs.length - (k + 1), by omega, hJ _ _ _ ⟨k + 1, done, by simp [upd, t0], by simp [upd, t3], by simp [upd], hM, ?_, ?_, rfl, by omega⟩⟩
      · rw [chsOf_same hlt hT']
        exact hG
      · rw [chsOf_same hlt hT']; exact hd
  · simp (disch := omega) only [t0, t3, tk, o3, hlt, Ex_cond, go_sem, Nat.reduceEqDiff, Nat.reduceAdd, Nat.reduceLeDiff, reduceCtorEq, Int.reduceLT, Int.reduceLE, Int.reduceNeg, Int.reduceSub, Int.reduceAdd, Int.reduceToNat, ↓reduceIte]
    have e : k = xs.length := by omega
    subst e
    rw [List.take_length] at hG hd
    exact ⟨⟨hM, hG.done rfl⟩, _, by rw [hd]⟩

theorem impl_changesOf_fresh (xs : List GEvent) (hs : szList GEvent.sz xs ≤ 1048576) : FreshCall Tryz.prog 62 [.list 0 5 (xs.map GEvent.cells)] (.list 0 4 ((chsOf xs).map GChange.cells)) (fun a => ∃ l, a = .own l (chsOf xs).length) := by
  refine fresh_fn2 mixed Tryz.func62 low_impl_changesOf rfl (fun h0 => ?_)
  have hl := szList_len hs
  have hm : ∀ e ∈ xs, GEvent.sz e ≤ 1048576 := fun e he => by have := szList_mem (f := GEvent.sz) he; omega
  simp (disch := omega) only [lf_impl_changesOf, c_impl_changesOf, Ex_cond, go_sem, Nat.reduceEqDiff, Nat.reduceAdd, Nat.reduceLeDiff, reduceCtorEq, Int.reduceLT, Int.reduceLE, Int.reduceNeg, Int.reduceSub, Int.reduceAdd, Int.reduceToNat, ↓reduceIte]
  refine Ex_loop (fun n t h => ∃ (k : Nat) (done : List (List AV)), t 7 = .list 0 5 (xs.map GEvent.cells) ∧ t 8 = .val (.int .i64 xs.length) ∧ t 3 = .own h0.length done.length ∧ t 9 = .val (.int .i64 k) ∧ More h0 h ∧ GrowAt h0.length h 27 4 done ((chsOf (xs.take k)).map GChange.cells) ∧ done.length = (chsOf (xs.take k)).length ∧ n = xs.length - k ∧ k ≤ xs.length) xs.length ?_ ?_
  · exact ⟨0, [], rfl, rfl, rfl, rfl, More.app _ _, GrowAt.zero (by rw [getA0]; rfl), rfl, rfl, Nat.zero_le _⟩
  rintro J hJ n t h ⟨k, done, t7, t8, t3, tk, hM, hG, hd, rfl, hk⟩
  have o3 := hG.row
  by_cases hlt : k < xs.length
  · have w3 := fun l => get_old (l := l) o3
    have ml := hM.len
    have gl := hG.lt
    have hcl := chsOf_len xs k
    have hG' := fun r : Row => hG.more (H' := h ++ [r]) (by simp) (fun y q1 q2 => List.getElem?_append_left q2)
    simp (disch := omega) only [t7, t8, t3, tk, o3, w3, hlt, GEvent.cells, Ex_cond, go_sem, Nat.reduceEqDiff, Nat.reduceAdd, Nat.reduceLeDiff, reduceCtorEq, Int.reduceLT, Int.reduceLE, Int.reduceNeg, Int.reduceSub, Int.reduceAdd, Int.reduceToNat, ↓reduceIte]
    refine PureCall.call (impl_TurnsOf_ok xs[k] _) ?_
    by_cases hT : turnsOf xs[k] = true
    · simp (disch := omega) only [t7, t8, t3, tk, o3, w3, hT, hlt, GEvent.cells, Ex_cond, go_sem, Nat.reduceEqDiff, Nat.reduceAdd, Nat.reduceLeDiff, reduceCtorEq, Int.reduceLT, Int.reduceLE, Int.reduceNeg, Int.reduceSub, Int.reduceAdd, Int.reduceToNat, ↓reduceIte]
      refine fresh_plain (impl_changeOf_fresh xs[k] (hm _ (List.getElem_mem hlt))) (fun av H1 m1 F1 q1 => ?_)
      obtain ⟨kk, l, rfl⟩ := q1
      have p3 := m1.at (get_old o3)
      have v3 := fun l => get_old (l := l) p3
      have l1 := m1.len
      simp only [List.length_append, List.length_cons, List.length_nil] at l1
      simp (disch := omega) only [t7, t8, t3, tk, p3, v3, set_app1, set_app2, List.set_append_left, Ex_cond, go_sem, Nat.reduceEqDiff, Nat.reduceAdd, Nat.reduceLeDiff, reduceCtorEq, Int.reduceLT, Int.reduceLE, Int.reduceNeg, Int.reduceSub, Int.reduceAdd, Int.reduceToNat, ↓reduceIte]
      refine ⟨by omega, by omega, xs.length - (k + 1), by omega, hJ _ _ _ ⟨k + 1, done ++ [[.val (.int .i64 kk), .val (.string xs[k].Name), .own l xs[k].Subs.length, .val (.string xs[k].Value)]], by simp [upd, t7], by simp [upd, t8], by simp [upd], by simp [upd], ?_, ?_, ?_, rfl, by omega⟩⟩
      · exact (((hM.add _).trans m1).set (by omega)).add _
      · rw [chsOf_succ hlt hT, List.map_append]
        refine (hG' _).step F1.tree.unagg m1.len (fun y q1 q2 => m1.kept y q2) (by simp) (fun y q1 q2 => ?_) ?_
        · rw [List.getElem?_append_left (by simpa using q2), List.getElem?_set_ne (by omega)]
        · exact get_old (set_at p3 _)
      · rw [chsOf_succ hlt hT]; simp [hd]
    · have hT' : turnsOf xs[k] = false := by simpa using hT
      simp (disch := omega) only [t7, t8, t3, tk, o3, w3, hT', hlt, GEvent.cells, Ex_cond, go_sem, Nat.reduceEqDiff, Nat.reduceAdd, Nat.reduceLeDiff, reduceCtorEq, Int.reduceLT, Int.reduceLE, Int.reduceNeg, Int.reduceSub, Int.reduceAdd, Int.reduceToNat, ↓reduceIte]
      refine ⟨xs.length - (k + 1), by omega, hJ _ _ _ ⟨k + 1, done, by simp [upd, t7], by simp [upd, t8], by simp [upd, t3], by simp [upd], hM.add _, ?_, ?_, rfl, by omega⟩⟩
      · rw [chsOf_same hlt hT']
        exact hG' _
      · rw [chsOf_same hlt hT']; exact hd
  · simp (disch := omega) only [t7, t8, t3, tk, o3, hlt, Ex_cond, go_sem, Nat.reduceEqDiff, Nat.reduceAdd, Nat.reduceLeDiff, reduceCtorEq, Int.reduceLT, Int.reduceLE, Int.reduceNeg, Int.reduceSub, Int.reduceAdd, Int.reduceToNat, ↓reduceIte]
    have e : k = xs.length := by omega
    subst e
    rw [List.take_length] at hG hd
    exact ⟨⟨hM, hG.done rfl⟩, _, by rw [hd]⟩

def changesR (xs : List GEvent) : List GChange × Int := if notesOk xs = true then (chsOf xs, 0) else ([], 1)
abbrev changesRes (p : List GChange × Int) : AV := .tup [.list 0 4 (p.1.map GChange.cells), .val (.int .i64 p.2)]
def c_impl_ChangesOf : LC :=
 .seq (.ops [⟨some 2, none, .mov (.const (.slice none 0 0))⟩, ⟨some 3, none, .mov (.const (.int .i64 0))⟩]) (.seq (.seq (.ops [⟨some 4, none, .mov (.tmp 0)⟩, ⟨some 5, none, .call 61 [.tmp 4]⟩, ⟨some 6, none, .un .not (.tmp
 5)⟩]) (.cond (.tmp 6) (.seq (.ops [⟨some 2, none, .mov (.const (.slice none 0 0))⟩, ⟨some 3, none, .mov (.const (.int .i64 1))⟩]) (.ret)) (.skip))) (.seq (.ops [⟨some 7, none, .mov (.tmp 0)⟩, ⟨some 8, none, .call 62 [.tmp
 7]⟩, ⟨some 2, none, .mov (.tmp 8)⟩, ⟨some 3, none, .mov (.const (.int .i64 0))⟩]) (.ret)))
def lf_impl_ChangesOf : LF := { np := 1, N := 9, body := c_impl_ChangesOf, res := [.tmp 2, .tmp 3] }
theorem low_impl_ChangesOf : LowF Tryz.prog Tryz.f27 lf_impl_ChangesOf := LowF.mk' (by kernel_rfl) (by kernel_rfl) (by kernel_rfl) (by decide)

def c_spec_ChangesOf : LC :=
 .seq (.ops [⟨some 2, none, .mov (.const (.slice none 0 0))⟩, ⟨some 3, none, .mov (.const (.int .i64 0))⟩]) (.seq (.seq (.ops [⟨some 4, none, .mov (.tmp 0)⟩, ⟨some 5, none, .call 59 [.tmp 4]⟩, ⟨some 6, none, .un .not (.tmp
 5)⟩]) (.cond (.tmp 6) (.seq (.ops [⟨some 7, none, .buildSlice 27 4 (.agg #[.int .i64 0, .string ⟨#[]⟩, .slice none 0 0, .string ⟨#[]⟩]) 0 []⟩, ⟨some 2, none, .mov (.tmp 7)⟩, ⟨some 3, none, .mov (.const (.int .i64 1))⟩])
 (.ret)) (.skip))) (.seq (.ops [⟨some 8, none, .mov (.tmp 0)⟩, ⟨some 9, none, .call 60 [.tmp 8]⟩, ⟨some 2, none, .mov (.tmp 9)⟩, ⟨some 3, none, .mov (.const (.int .i64 0))⟩]) (.ret)))
def lf_spec_ChangesOf : LF := { np := 1, N := 10, body := c_spec_ChangesOf, res := [.tmp 2, .tmp 3] }
theorem low_spec_ChangesOf : LowF Tryz.prog Tryz.f25 lf_spec_ChangesOf := LowF.mk' (by kernel_rfl) (by kernel_rfl) (by kernel_rfl) (by decide)

theorem spec_ChangesOf_fresh (xs : List GEvent) (hs : szList GEvent.sz xs ≤ 1048576) : FreshCall Tryz.prog 25 [.list 0 5 (xs.map GEvent.cells)] (changesRes (changesR xs)) (fun a => ∃ b q, a = .tup [b, .val (.int .i64 q)]) := by
  refine fresh_fn2 mixed Tryz.func25 low_spec_ChangesOf rfl (fun h0 => ?_)
  simp (disch := omega) only [lf_spec_ChangesOf, c_spec_ChangesOf, Ex_cond, go_sem, Nat.reduceEqDiff, Nat.reduceAdd, Nat.reduceLeDiff, reduceCtorEq, Int.reduceLT, Int.reduceLE, Int.reduceNeg, Int.reduceSub, Int.reduceAdd, Int.reduceToNat, ↓reduceIte]
  refine PureCall.call (spec_l25Notes_ok xs hs _) ?_
  by_cases q : notesOk xs = true
  case neg =>
    have q' : notesOk xs = false := by simpa using q
    have hR : changesR xs = ([], 1) := by rw [changesR, if_neg q]
    simp (disch := omega) only [q', Ex_cond, go_sem, Nat.reduceEqDiff, Nat.reduceAdd, Nat.reduceLeDiff, reduceCtorEq, Int.reduceLT, Int.reduceLE, Int.reduceNeg, Int.reduceSub, Int.reduceAdd, Int.reduceToNat, ↓reduceIte]
    rw [hR]
    exact ⟨⟨More.app _ _, FreshB.pair ((GrowAt.zero (by rw [getA0]; rfl)).done rfl) (by simp) _⟩, _, _, rfl⟩
  have hR : changesR xs = (chsOf xs, 0) := by rw [changesR, if_pos q]
  simp (disch := omega) only [q, Ex_cond, go_sem, Nat.reduceEqDiff, Nat.reduceAdd, Nat.reduceLeDiff, reduceCtorEq, Int.reduceLT, Int.reduceLE, Int.reduceNeg, Int.reduceSub, Int.reduceAdd, Int.reduceToNat, ↓reduceIte]
  refine fresh_plain (spec_l25Changes_fresh xs hs) (fun av H1 m1 F1 q1 => ?_)
  obtain ⟨l, rfl⟩ := q1
  simp (disch := omega) only [Ex_cond, go_sem, Nat.reduceEqDiff, Nat.reduceAdd, Nat.reduceLeDiff, reduceCtorEq, Int.reduceLT, Int.reduceLE, Int.reduceNeg, Int.reduceSub, Int.reduceAdd, Int.reduceToNat, ↓reduceIte]
  rw [hR]
  exact ⟨⟨m1, F1.tree.pair m1.len _⟩, _, _, rfl⟩

theorem impl_ChangesOf_fresh (xs : List GEvent) (hs : szList GEvent.sz xs ≤ 1048576) : FreshCall Tryz.prog 27 [.list 0 5 (xs.map GEvent.cells)] (changesRes (changesR xs)) (fun a => ∃ b q, a = .tup [b, .val (.int .i64 q)]) := by
  refine fresh_fn2 mixed Tryz.func27 low_impl_ChangesOf rfl (fun h0 => ?_)
  simp (disch := omega) only [lf_impl_ChangesOf, c_impl_ChangesOf, Ex_cond, go_sem, Nat.reduceEqDiff, Nat.reduceAdd, Nat.reduceLeDiff, reduceCtorEq, Int.reduceLT, Int.reduceLE, Int.reduceNeg, Int.reduceSub, Int.reduceAdd, Int.reduceToNat, ↓reduceIte]
  refine PureCall.call (impl_notesOk_ok xs hs _) ?_
  by_cases q : notesOk xs = true
  case neg =>
    have q' : notesOk xs = false := by simpa using q
    have hR : changesR xs = ([], 1) := by rw [changesR, if_neg q]
    simp (disch := omega) only [q', Ex_cond, go_sem, Nat.reduceEqDiff, Nat.reduceAdd, Nat.reduceLeDiff, reduceCtorEq, Int.reduceLT, Int.reduceLE, Int.reduceNeg, Int.reduceSub, Int.reduceAdd, Int.reduceToNat, ↓reduceIte]
    rw [hR]
    exact ⟨⟨More.refl _, FreshB.pair (FreshB.mknil _ _ _ 4) (Nat.le_refl _) _⟩, _, _, rfl⟩
  have hR : changesR xs = (chsOf xs, 0) := by rw [changesR, if_pos q]
  simp (disch := omega) only [q, Ex_cond, go_sem, Nat.reduceEqDiff, Nat.reduceAdd, Nat.reduceLeDiff, reduceCtorEq, Int.reduceLT, Int.reduceLE, Int.reduceNeg, Int.reduceSub, Int.reduceAdd, Int.reduceToNat, ↓reduceIte]
  refine fresh_plain (impl_changesOf_fresh xs hs) (fun av H1 m1 F1 q1 => ?_)
  obtain ⟨l, rfl⟩ := q1
  simp (disch := omega) only [Ex_cond, go_sem, Nat.reduceEqDiff, Nat.reduceAdd, Nat.reduceLeDiff, reduceCtorEq, Int.reduceLT, Int.reduceLE, Int.reduceNeg, Int.reduceSub, Int.reduceAdd, Int.reduceToNat, ↓reduceIte]
  rw [hR]
  exact ⟨⟨m1, F1.tree.pair m1.len _⟩, _, _, rfl⟩

theorem spec_ChangesOf_ok (xs : List GEvent) (hs : szList GEvent.sz xs ≤ 1048576) (h : List Row) : PureCall Tryz.prog 25 [.list 0 5 (xs.map GEvent.cells)] h (changesRes (changesR xs)) := (spec_ChangesOf_fresh xs hs).pure rfl h
theorem chs_sz : ∀ (xs : List GEvent), szList GChange.sz (chsOf xs) ≤ szList GEvent.sz xs
  | [] => Nat.le_refl _
  | x :: xs => by
    have ih := chs_sz xs
    have e1 : szList GEvent.sz (x :: xs) = szList GEvent.sz xs + 1 + GEvent.sz x := by simp only [szList, sumOf, List.length_cons]; omega
    by_cases hT : turnsOf x = true
    · have e2 : chsOf (x :: xs) = chOf x :: chsOf xs := by simp [chsOf, hT]
      have e3 : GChange.sz (chOf x) ≤ GEvent.sz x := Nat.le_refl (x.Name.size + szList ByteArray.size x.Subs + x.Value.size)
      rw [e2, e1]
      simp only [szList, sumOf, List.length_cons] at ih ⊢
      omega
    · have e2 : chsOf (x :: xs) = chsOf xs := by simp [chsOf, hT]
      rw [e2, e1]; omega
theorem changes_sz {xs : List GEvent} (hs : szList GEvent.sz xs ≤ 1048576) : szList GChange.sz (changesR xs).1 ≤ 1048576 := by
  unfold changesR
  split
  · exact Nat.le_trans (chs_sz xs) hs
  · simp [szList, sumOf]
end Go.Proofs.YtleolgjneaekcabGreatDoor
