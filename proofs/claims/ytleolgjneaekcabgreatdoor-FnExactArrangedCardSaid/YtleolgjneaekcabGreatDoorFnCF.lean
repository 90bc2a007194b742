/-
  Contracts of functions of this program, over abstract values. Conditions: as each theorem says.
-/
import Derived.Test.YtleolgjneaekcabGreatDoorFnCE
import Derived.Test.YtleolgjneaekcabGreatDoorAwC
namespace Go.Proofs.YtleolgjneaekcabGreatDoor
open Go.AW
set_option linter.unusedVariables false
set_option linter.unusedSimpArgs false
set_option maxRecDepth 4000

def c_impl_copyTrans : LC :=
 .seq (.ops [⟨some 1, none, .box 43 (.tmp 0)⟩, ⟨some 2, none, .alloc 43 (.agg #[.int .i64 0, .int .i64 0, .slice none 0 0])⟩]) (.seq (.ops [⟨some 6, none, .fieldAddr 0 (.tmp 1)⟩, ⟨some 7, none, .load none (.tmp 6)⟩, ⟨some
 8, none, .fieldAddr 1 (.tmp 1)⟩, ⟨some 9, none, .load none (.tmp 8)⟩, ⟨some 10, none, .build (.agg #[.int .i64 0, .int .i64 0, .slice none 0 0]) [(0, 1), (1, 1), (2, 1)] [(0, .tmp 7), (1, .tmp 9)]⟩, ⟨some 3, none, .alloc
 43 (.agg #[.int .i64 0, .int .i64 0, .slice none 0 0])⟩, ⟨none, none, .store 3 (.tmp 3) (.tmp 10)⟩]) (.seq (.seq (.ops [⟨some 11, none, .fieldAddr 2 (.tmp 1)⟩, ⟨some 12, none, .load none (.tmp 11)⟩, ⟨some 13, none, .lenSl
 (.tmp 12)⟩, ⟨some 14, none, .mov (.const (.int .i64 0))⟩]) (.block 0 (.ghost (.loop (.seq (.ops [⟨some 15, none, .bin .lss false (.tmp 14) (.tmp 13)⟩]) (.seq (.cond (.tmp 15) (.skip) (.exit 0)) (.seq (.block 1 (.seq (.ops
 [⟨some 16, none, .indexAddr 5 (.tmp 12) (.tmp 14)⟩, ⟨some 17, none, .load (some 5) (.tmp 16)⟩, ⟨some 5, none, .alloc 30 (.agg #[.int .i64 0, .string ⟨#[]⟩, .slice none 0 0, .string ⟨#[]⟩, .int .i64 0])⟩, ⟨none, none,
 .store 5 (.tmp 5) (.tmp 17)⟩]) (.gops [⟨some 18, none, .fieldAddr 2 (.tmp 3)⟩, ⟨some 19, none, .load none (.tmp 18)⟩, ⟨some 20, none, .load (some 5) (.tmp 5)⟩] [(⟨some 21, none, .call 75 [.tmp 20]⟩, [⟨some 18, none,
 .fieldAddr 2 (.tmp 3)⟩, ⟨some 19, none, .load none (.tmp 18)⟩]), (⟨some 22, none, .buildSlice 30 5 (.agg #[.int .i64 0, .string ⟨#[]⟩, .slice none 0 0, .string ⟨#[]⟩, .int .i64 0]) 1 [(0, .tmp 21)]⟩, [⟨some 18, none,
 .fieldAddr 2 (.tmp 3)⟩, ⟨some 19, none, .load none (.tmp 18)⟩]), (⟨some 23, none, .append 30 5 72 (.tmp 19) (.tmp 22)⟩, []), (⟨some 24, none, .fieldAddr 2 (.tmp 3)⟩, []), (⟨none, none, .store 1 (.tmp 24) (.tmp 23)⟩,
 [])]))) (.ops [⟨some 25, none, .bin .add false (.tmp 14) (.const (.int .i64 1))⟩, ⟨some 14, none, .mov (.tmp 25)⟩])))))))) (.seq (.ops [⟨some 26, none, .load (some 3) (.tmp 3)⟩, ⟨none, none, .store 3 (.tmp 2) (.tmp 26)⟩])
 (.ret))))
def lf_impl_copyTrans : LF := { np := 1, N := 27, body := c_impl_copyTrans, res := [.cell 2 (some 3)] }
theorem low_impl_copyTrans : LowF Tryz.prog Tryz.f65 lf_impl_copyTrans := LowF.mk' (by kernel_rfl) (by kernel_rfl) (by kernel_rfl) (by decide)

theorem impl_copyTrans_fresh (x : GTrans) (hx : GTrans.sz x ≤ 1048576) : FreshCall Tryz.prog 65 [.agg (GTrans.cells x)] (.agg (GTrans.cells x)) (fun a => ∃ l, a = .agg [.val (.int .i64 x.Depth), .val (.int .i64 x.Restarts), .own l x.Events.length]) := by
  refine fresh_fn2 mixed Tryz.func65 low_impl_copyTrans rfl (fun h0 => ?_)
  have hs := GTrans.sz_Events hx
  have hl := szList_len hs
  have hm : ∀ e ∈ x.Events, GEvent.sz e ≤ 1048576 := fun e he => by have := szList_mem (f := GEvent.sz) he; omega
  simp (disch := omega) only [lf_impl_copyTrans, c_impl_copyTrans, GTrans.cells, afill, Option.map_some, Ex_cond, go_sem, Nat.reduceEqDiff, Nat.reduceAdd, Nat.reduceLeDiff, reduceCtorEq, Int.reduceLT, Int.reduceLE, Int.reduceNeg, Int.reduceSub, Int.reduceAdd, Int.reduceToNat, ↓reduceIte]
  refine Ex_ghost_mem (h0 ++ [⟨43, 3, [[.val (.int .i64 x.Depth), .val (.int .i64 x.Restarts), .list 0 5 (x.Events.map GEvent.cells)]]⟩, ⟨43, 3, [[.val (.int .i64 0), .val (.int .i64 0), .val (.slice none 0 0)]]⟩, ⟨43, 3, [[.val (.int .i64 x.Depth), .val (.int .i64 x.Restarts), .own (h0.length + 3) 0]]⟩, ⟨30, 5, []⟩]) (fun t => ghost_box (h0 ++ [⟨43, 3, [[.val (.int .i64 x.Depth), .val (.int .i64 x.Restarts), .list 0 5 (x.Events.map GEvent.cells)]]⟩, ⟨43, 3, [[.val (.int .i64 0), .val (.int .i64 0), .val (.slice none 0 0)]]⟩]) [] (.ty 43) 3 [.val (.int .i64 x.Depth), .val (.int .i64 x.Restarts)] [] 30 5 (h0.length + 3) (by simp) (by simp) (by simp)) ?_
  refine Ex_loop (fun n t h => ∃ (k : Nat) (done : List (List AV)), t 2 = .ptr (h0.length + 1) 1 0 0 ∧ t 3 = .ptr (h0.length + 2) 1 0 0 ∧ t 12 = .list 0 5 (x.Events.map GEvent.cells) ∧ t 13 = .val (.int .i64 x.Events.length) ∧ t 14 = .val (.int .i64 k) ∧ More h0 h ∧
    h[h0.length + 1]? = some ⟨43, 3, [[.val (.int .i64 0), .val (.int .i64 0), .val (.slice none 0 0)]]⟩ ∧ h[h0.length + 2]? = some ⟨43, 3, [[.val (.int .i64 x.Depth), .val (.int .i64 x.Restarts), .own (h0.length + 3) k]]⟩ ∧
    GrowAt (h0.length + 3) h 30 5 done ((x.Events.take k).map GEvent.cells) ∧ done.length = k ∧ n = x.Events.length - k ∧ k ≤ x.Events.length) x.Events.length ?_ ?_
  · exact ⟨0, [], rfl, rfl, rfl, rfl, rfl, More.app _ _, by rw [getAk]; rfl, by rw [getAk]; rfl, GrowAt.zero (by rw [getAk]; rfl), rfl, rfl, Nat.zero_le _⟩
  rintro J hJ n t h ⟨k, done, t2, t3, t12, t13, t14, hM, o1, o2, hG, hd, rfl, hk⟩
  have o3 := hG.row
  by_cases hlt : k < x.Events.length
  · have w2 := fun l => get_old (l := l) o2
    have ml := hM.len
    have gl := hG.lt
    simp (disch := omega) only [t2, t3, t12, t13, t14, o2, w2, hlt, GEvent.cells, Ex_cond, go_sem, Nat.reduceEqDiff, Nat.reduceAdd, Nat.reduceLeDiff, reduceCtorEq, Int.reduceLT, Int.reduceLE, Int.reduceNeg, Int.reduceSub, Int.reduceAdd, Int.reduceToNat, ↓reduceIte]
    refine fresh_plain (impl_copyEvent_fresh x.Events[k] (hm _ (List.getElem_mem hlt))) (fun av H1 m1 F1 q1 => ?_)
    obtain ⟨l, rfl⟩ := q1
    have p1 := m1.at (get_old o1)
    have p2 := m1.at (get_old o2)
    have p3 := m1.at (get_old o3)
    have v1 := fun l => get_old (l := l) p1
    have v2 := fun l => get_old (l := l) p2
    have v3 := fun l => get_old (l := l) p3
    have l1 := m1.len
    simp only [List.length_append, List.length_cons, List.length_nil] at l1
    have z2 := fun r l => set_old (l := l) (i := h0.length + 3) p2 r (by omega)
    simp (disch := omega) only [t2, t3, t12, t13, t14, p2, p3, v2, v3, z2, hd, set_app1, set_app2, List.set_append_left, Ex_cond, go_sem, Nat.reduceEqDiff, Nat.reduceAdd, Nat.reduceLeDiff, reduceCtorEq, Int.reduceLT, Int.reduceLE, Int.reduceNeg, Int.reduceSub, Int.reduceAdd, Int.reduceToNat, ↓reduceIte]
    refine ⟨by omega, by omega, x.Events.length - (k + 1), by omega, hJ _ _ _ ⟨k + 1, done ++ [[.val (.int .i64 x.Events[k].Kind), .val (.string x.Events[k].Name), .own l x.Events[k].Subs.length, .val (.string x.Events[k].Value), .val (.int .i64 x.Events[k].N)]], by simp [upd, t2], by simp [upd, t3], by simp [upd, t12], by simp [upd, t13], by simp [upd], ?_, ?_, ?_, ?_, ?_, rfl, by omega⟩⟩
    · exact ((((hM.add _).trans m1).set (by omega)).set (by omega)).add _
    · exact get_old (by rw [List.getElem?_set_ne (by omega), List.getElem?_set_ne (by omega)]; exact p1)
    · exact set_new (by rw [List.getElem?_set_ne (by omega)]; exact p2) _
    · rw [List.take_succ_eq_append_getElem hlt, List.map_append]
      refine (hG.more (H' := h ++ [_]) (by simp) (fun y q1 q2 => List.getElem?_append_left q2)).step F1.tree.unagg m1.len (fun y q1 q2 => m1.kept y q2) (by simp) (fun y q1 q2 => ?_) ?_
      · rw [List.getElem?_append_left (by simpa using q2), List.getElem?_set_ne (by omega), List.getElem?_set_ne (by omega)]
      · exact get_old (by rw [List.getElem?_set_ne (by omega)]; exact set_at p3 _)
    · simp [hd]
  · have u1 := fun r => set_at o1 r
    simp (disch := omega) only [t2, t3, t12, t13, t14, o1, o2, u1, hlt, Ex_cond, go_sem, Nat.reduceEqDiff, Nat.reduceAdd, Nat.reduceLeDiff, reduceCtorEq, Int.reduceLT, Int.reduceLE, Int.reduceNeg, Int.reduceSub, Int.reduceAdd, Int.reduceToNat, ↓reduceIte]
    have e : k = x.Events.length := by omega
    subst e
    rw [List.take_length] at hG
    exact ⟨⟨hM.set (by omega), (hG.more (by simp) (fun y q1 q2 => by rw [List.getElem?_set_ne (by omega)])).agg hd (by omega) _ _⟩, _, rfl⟩
end Go.Proofs.YtleolgjneaekcabGreatDoor
