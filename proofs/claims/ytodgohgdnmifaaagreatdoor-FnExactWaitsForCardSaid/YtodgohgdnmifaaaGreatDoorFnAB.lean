/-
  Contracts of functions of this program, over abstract values. Conditions: as each theorem says.
-/
import Derived.Test.YtodgohgdnmifaaaGreatDoorFnAA
namespace Go.Proofs.YtodgohgdnmifaaaGreatDoor
open Go.AW
set_option linter.unusedVariables false
set_option linter.unusedSimpArgs false
set_option maxRecDepth 4000

def inFront (x : GLocks) (j : Int) (nm : ByteArray) (s : List ByteArray) : List Int := compactL (sortI (front x j nm s))
theorem take_map_asks (x : GLocks) (k : Nat) : ((x.Asks.map GAsk.cells).take k).drop 0 = (x.Asks.take k).map GAsk.cells := by rw [List.drop_zero, List.map_take]
def c_impl_Locks_inFront : LC :=
 .seq (.ops [⟨some 8, none, .mov (.const (.slice none 0 0))⟩]) (.seq (.ops [⟨some 16, none, .buildSlice 2 1 (.int .i64 0) 0 []⟩, ⟨some 9, none, .mov (.tmp 16)⟩]) (.seq (.seq (.ops [⟨some 17, none, .mov (.tmp 0)⟩, ⟨some 18,
 none, .nilCheck (.tmp 17)⟩, ⟨some 19, none, .fieldAddr 0 (.tmp 18)⟩, ⟨some 20, none, .load none (.tmp 19)⟩, ⟨some 21, none, .lenSl (.tmp 20)⟩, ⟨some 22, none, .mov (.const (.int .i64 0))⟩]) (.block 0 (.loop (.seq (.ops
 [⟨some 23, none, .bin .lss false (.tmp 22) (.tmp 21)⟩]) (.seq (.cond (.tmp 23) (.skip) (.exit 0)) (.seq (.block 1 (.seq (.ops [⟨some 24, none, .indexAddr 4 (.tmp 20) (.tmp 22)⟩, ⟨some 25, none, .load (some 4) (.tmp 24)⟩,
 ⟨some 11, none, .alloc 74 (.agg #[.int .i64 0, .int .i64 0, .string ⟨#[]⟩, .slice none 0 0])⟩, ⟨none, none, .store 4 (.tmp 11) (.tmp 25)⟩]) (.seq (.ops [⟨some 26, none, .fieldAddr 0 (.tmp 11)⟩, ⟨some 27, none, .load none
 (.tmp 26)⟩, ⟨some 28, none, .mov (.tmp 1)⟩, ⟨some 29, none, .bin .neq false (.tmp 27) (.tmp 28)⟩, ⟨some 30, none, .mov (.tmp 29)⟩, ⟨some 31, (some (30, true)), .fieldAddr 2 (.tmp 11)⟩, ⟨some 32, (some (30, true)), .load
 none (.tmp 31)⟩, ⟨some 33, (some (30, true)), .fieldAddr 3 (.tmp 11)⟩, ⟨some 34, (some (30, true)), .load none (.tmp 33)⟩, ⟨some 35, (some (30, true)), .mov (.tmp 2)⟩, ⟨some 36, (some (30, true)), .mov (.tmp 3)⟩, ⟨some
 37, (some (30, true)), .call 118 [.tmp 32, .tmp 34, .tmp 35, .tmp 36]⟩, ⟨some 38, none, .pick (.tmp 30) (.tmp 37) (.const (.bool false))⟩]) (.cond (.tmp 38) (.ops [⟨some 39, none, .mov (.tmp 9)⟩, ⟨some 40, none,
 .fieldAddr 0 (.tmp 11)⟩, ⟨some 41, none, .load none (.tmp 40)⟩, ⟨some 42, none, .buildSlice 2 1 (.int .i64 0) 1 [(0, .tmp 41)]⟩, ⟨some 43, none, .append 2 1 8 (.tmp 39) (.tmp 42)⟩, ⟨some 9, none, .mov (.tmp 43)⟩])
 (.skip))))) (.ops [⟨some 44, none, .bin .add false (.tmp 22) (.const (.int .i64 1))⟩, ⟨some 22, none, .mov (.tmp 44)⟩]))))))) (.seq (.ops [⟨some 45, none, .mov (.tmp 0)⟩, ⟨some 46, none, .nilCheck (.tmp 45)⟩, ⟨some 47,
 none, .fieldAddr 1 (.tmp 46)⟩, ⟨some 48, none, .load none (.tmp 47)⟩, ⟨some 12, none, .mov (.tmp 48)⟩]) (.seq (.seq (.ops [⟨some 49, none, .mov (.tmp 0)⟩, ⟨some 50, none, .mov (.tmp 1)⟩, ⟨some 51, none, .call 79 [.tmp 49,
 .tmp 50]⟩, ⟨some 13, none, .mov (.tmp 51)⟩]) (.seq (.ops [⟨some 52, none, .mov (.tmp 13)⟩, ⟨some 53, none, .bin .geq false (.tmp 52) (.const (.int .i64 0))⟩]) (.cond (.tmp 53) (.ops [⟨some 54, none, .mov (.tmp 0)⟩, ⟨some
 55, none, .nilCheck (.tmp 54)⟩, ⟨some 56, none, .fieldAddr 1 (.tmp 55)⟩, ⟨some 57, none, .load none (.tmp 56)⟩, ⟨some 58, none, .mov (.tmp 13)⟩, ⟨some 59, none, .sliceSl 4 (.tmp 57) none (some (.tmp 58))⟩, ⟨some 12, none,
 .mov (.tmp 59)⟩]) (.skip)))) (.seq (.seq (.ops [⟨some 60, none, .mov (.tmp 12)⟩, ⟨some 61, none, .lenSl (.tmp 60)⟩, ⟨some 62, none, .mov (.const (.int .i64 0))⟩]) (.block 2 (.loop (.seq (.ops [⟨some 63, none, .bin .lss
 false (.tmp 62) (.tmp 61)⟩]) (.seq (.cond (.tmp 63) (.skip) (.exit 2)) (.seq (.block 3 (.seq (.ops [⟨some 64, none, .indexAddr 4 (.tmp 60) (.tmp 62)⟩, ⟨some 65, none, .load (some 4) (.tmp 64)⟩, ⟨some 15, none, .alloc 64
 (.agg #[.int .i64 0, .int .i64 0, .string ⟨#[]⟩, .slice none 0 0])⟩, ⟨none, none, .store 4 (.tmp 15) (.tmp 65)⟩]) (.seq (.ops [⟨some 66, none, .fieldAddr 0 (.tmp 15)⟩, ⟨some 67, none, .load none (.tmp 66)⟩, ⟨some 68,
 none, .mov (.tmp 1)⟩, ⟨some 69, none, .bin .neq false (.tmp 67) (.tmp 68)⟩, ⟨some 70, none, .mov (.tmp 69)⟩, ⟨some 71, (some (70, true)), .fieldAddr 2 (.tmp 15)⟩, ⟨some 72, (some (70, true)), .load none (.tmp 71)⟩, ⟨some
 73, (some (70, true)), .fieldAddr 3 (.tmp 15)⟩, ⟨some 74, (some (70, true)), .load none (.tmp 73)⟩, ⟨some 75, (some (70, true)), .mov (.tmp 2)⟩, ⟨some 76, (some (70, true)), .mov (.tmp 3)⟩, ⟨some 77, (some (70, true)),
 .call 118 [.tmp 72, .tmp 74, .tmp 75, .tmp 76]⟩, ⟨some 78, none, .pick (.tmp 70) (.tmp 77) (.const (.bool false))⟩, ⟨some 79, none, .mov (.tmp 78)⟩, ⟨some 80, (some (79, true)), .mov (.tmp 0)⟩, ⟨some 81, (some (79,
 true)), .mov (.tmp 1)⟩, ⟨some 82, (some (79, true)), .fieldAddr 2 (.tmp 15)⟩, ⟨some 83, (some (79, true)), .load none (.tmp 82)⟩, ⟨some 84, (some (79, true)), .fieldAddr 3 (.tmp 15)⟩, ⟨some 85, (some (79, true)), .load
 none (.tmp 84)⟩, ⟨some 86, (some (79, true)), .call 120 [.tmp 80, .tmp 81, .tmp 83, .tmp 85]⟩, ⟨some 87, (some (79, true)), .un .not (.tmp 86)⟩, ⟨some 88, none, .pick (.tmp 79) (.tmp 87) (.const (.bool false))⟩]) (.cond
 (.tmp 88) (.ops [⟨some 89, none, .mov (.tmp 9)⟩, ⟨some 90, none, .fieldAddr 0 (.tmp 15)⟩, ⟨some 91, none, .load none (.tmp 90)⟩, ⟨some 92, none, .buildSlice 2 1 (.int .i64 0) 1 [(0, .tmp 91)]⟩, ⟨some 93, none, .append 2 1
 8 (.tmp 89) (.tmp 92)⟩, ⟨some 9, none, .mov (.tmp 93)⟩]) (.skip))))) (.ops [⟨some 94, none, .bin .add false (.tmp 62) (.const (.int .i64 1))⟩, ⟨some 62, none, .mov (.tmp 94)⟩]))))))) (.seq (.ops [⟨some 95, none, .mov
 (.tmp 9)⟩, ⟨some 96, none, .call 45 [.tmp 95]⟩]) (.seq (.ops [⟨some 97, none, .mov (.tmp 9)⟩, ⟨some 98, none, .call 121 [.tmp 97]⟩, ⟨some 8, none, .mov (.tmp 98)⟩]) (.ret))))))))
def lf_impl_Locks_inFront : LF := { np := 4, N := 99, body := c_impl_Locks_inFront, res := [.tmp 8] }
theorem low_impl_Locks_inFront : LowF Tryz.prog Tryz.f80 lf_impl_Locks_inFront := LowF.mk' (by kernel_rfl) (by kernel_rfl) (by kernel_rfl) (by decide)

theorem impl_Locks_inFront_fresh (x : GLocks) (j : Int) (nm : ByteArray) (s : List ByteArray) (hx : GLocks.sz x ≤ 1048576) (hs : s.length ≤ 1048576) : FreshCall Tryz.prog 80 [.iptr (GLocks.cells x), .val (.int .i64 j), .val (.string nm), .list 0 1 (s.map cStr)] (.list 0 1 (iCells (inFront x j nm s))) (fun a => ∃ (k : Nat) (b : AV), True ∧ a = b.shift k) := by
  refine fresh_fn0 mixed Tryz.func80 low_impl_Locks_inFront rfl rfl ?_
  have hlen := szList_len (GLocks.sz_Held hx)
  have hlenA := szList_len (GLocks.sz_Asks hx)
  have hmH : ∀ a ∈ x.Held, GLock.sz a ≤ 1048576 := fun a ha => szList_le (GLocks.sz_Held hx) ha
  have hmA : ∀ a ∈ x.Asks, GAsk.sz a ≤ 1048576 := fun a ha => szList_le (GLocks.sz_Asks hx) ha
  have hcells : GLocks.cells x = [.list 0 4 (x.Held.map GLock.cells), .list 0 4 (x.Asks.map GAsk.cells)] := rfl
  simp (disch := omega) only [lf_impl_Locks_inFront, c_impl_Locks_inFront, hcells, go_sem, Nat.reduceEqDiff, Nat.reduceAdd, Nat.reduceLeDiff, reduceCtorEq, Int.reduceLT, Int.reduceLE, Int.reduceNeg, Int.reduceSub, Int.reduceAdd, Int.reduceToNat, ↓reduceIte]
  refine Ex_loop (fun m t h => ∃ (k : Nat) (out : List Int) (rest : List Row), t 0 = .iptr [.list 0 4 (x.Held.map GLock.cells), .list 0 4 (x.Asks.map GAsk.cells)] ∧ t 1 = .val (.int .i64 j) ∧ t 2 = .val (.string nm) ∧ t 3 = .list 0 1 (s.map cStr) ∧ t 9 = .own 0 out.length ∧ t 20 = .list 0 4 (x.Held.map GLock.cells) ∧ t 21 = .val (.int .i64 x.Held.length) ∧ t 22 = .val (.int .i64 k) ∧ h = ⟨.ty 2, 1, iCells out⟩ :: rest ∧ m = x.Held.length - k ∧ k ≤ x.Held.length ∧ out.length ≤ k ∧ heldJobs j nm s x.Held = out ++ heldJobs j nm s (x.Held.drop k)) x.Held.length ⟨0, [], [], rfl, rfl, rfl, rfl, rfl, rfl, rfl, rfl, rfl, rfl, Nat.zero_le _, by simp, rfl⟩ ?_
  rintro J hJ m t h ⟨k, out, rest, t0, t1, t2, t3, t9, t20, t21, t22, rfl, rfl, hk, ho, hS⟩
  by_cases hlt : k < x.Held.length
  · rw [heldJobs_at _ _ _ _ _ hlt] at hS
    have hck := hmH _ (List.getElem_mem hlt)
    have next : ∀ (t' : Nat → AV) (out' : List Int) (rest' : List Row), t' 0 = t 0 → t' 1 = t 1 → t' 2 = t 2 → t' 3 = t 3 → t' 9 = .own 0 out'.length → t' 20 = t 20 → t' 21 = t 21 → t' 22 = .val (.int .i64 (k + 1 : Nat)) → out'.length ≤ k + 1 → heldJobs j nm s x.Held = out' ++ heldJobs j nm s (x.Held.drop (k + 1)) → ∃ m, m < x.Held.length - k ∧ J m t' (⟨.ty 2, 1, iCells out'⟩ :: rest') :=
      fun t' out' rest' e0 e1 e2 e3 e9 e20 e21 e22 e e' => ⟨x.Held.length - (k + 1), by omega, hJ _ _ _ ⟨k + 1, out', rest', e0.trans t0, e1.trans t1, e2.trans t2, e3.trans t3, e9, e20.trans t20, e21.trans t21, e22, rfl, rfl, by omega, e, e'⟩⟩
    by_cases hj : x.Held[k].Job = j
    · have hj' : (x.Held[k].Job = j) = True := eq_true hj
      simp (disch := omega) only [t0, t1, t2, t3, t9, t20, t21, t22, hlt, cellsL, hj', go_sem, Nat.reduceEqDiff, Nat.reduceAdd, Nat.reduceLeDiff, reduceCtorEq, Int.reduceLT, Int.reduceLE, Int.reduceNeg, Int.reduceSub, Int.reduceAdd, Int.reduceToNat, ↓reduceIte]
      refine next _ out _ (by simp [upd]) (by simp [upd]) (by simp [upd]) (by simp [upd]) (by simp [upd, t9]) (by simp [upd]) (by simp [upd]) (by simp [upd]) (by omega) ?_
      rw [hS, show hitBy j nm s x.Held[k] = false by simp [hitBy, hj]]; rfl
    · have hj' : (x.Held[k].Job = j) = False := eq_false hj
      simp (disch := omega) only [t0, t1, t2, t3, t9, t20, t21, t22, hlt, cellsL, hj', go_sem, Nat.reduceEqDiff, Nat.reduceAdd, Nat.reduceLeDiff, reduceCtorEq, Int.reduceLT, Int.reduceLE, Int.reduceNeg, Int.reduceSub, Int.reduceAdd, Int.reduceToNat, ↓reduceIte]
      refine PureCall.call (impl_conflict_ok _ _ _ _ (szList_len (GLock.sz_Subs hck)) hs _) ?_
      by_cases hw : way x.Held[k].Name x.Held[k].Subs nm s = true
      · simp (disch := omega) only [t0, t1, t2, t3, t9, t20, t21, t22, hw, go_sem, Nat.reduceEqDiff, Nat.reduceAdd, Nat.reduceLeDiff, reduceCtorEq, Int.reduceLT, Int.reduceLE, Int.reduceNeg, Int.reduceSub, Int.reduceAdd, Int.reduceToNat, ↓reduceIte]
        refine ⟨by omega, by omega, ?_⟩
        refine next _ (out ++ [x.Held[k].Job]) _ (by simp [upd]) (by simp [upd]) (by simp [upd]) (by simp [upd]) (by simp [upd]) (by simp [upd]) (by simp [upd]) (by simp [upd]) (by simp; omega) ?_
        rw [hS, show hitBy j nm s x.Held[k] = true by simp [hitBy, hj, hw]]; simp
      · have hw' : way x.Held[k].Name x.Held[k].Subs nm s = false := by simpa using hw
        simp (disch := omega) only [t0, t1, t2, t3, t9, t20, t21, t22, hw', go_sem, Nat.reduceEqDiff, Nat.reduceAdd, Nat.reduceLeDiff, reduceCtorEq, Int.reduceLT, Int.reduceLE, Int.reduceNeg, Int.reduceSub, Int.reduceAdd, Int.reduceToNat, ↓reduceIte]
        refine next _ out _ (by simp [upd]) (by simp [upd]) (by simp [upd]) (by simp [upd]) (by simp [upd, t9]) (by simp [upd]) (by simp [upd]) (by simp [upd]) (by omega) ?_
        rw [hS, show hitBy j nm s x.Held[k] = false by simp [hitBy, hw']]; rfl
  · rw [heldJobs_end _ _ _ _ _ (by omega), List.append_nil] at hS
    have hwait : ∀ H, PureCall Tryz.prog 79 [.iptr [.list 0 4 (x.Held.map GLock.cells), .list 0 4 (x.Asks.map GAsk.cells)], .val (.int .i64 j)] H (.val (.int .i64 (askOf x j))) := fun H => impl_Locks_waiting_ok x j hlenA H
    have hblk : ∀ (n' : ByteArray) (s' : List ByteArray) (H : List Row), s'.length ≤ 1048576 → PureCall Tryz.prog 120 [.iptr [.list 0 4 (x.Held.map GLock.cells), .list 0 4 (x.Asks.map GAsk.cells)], .val (.int .i64 j), .val (.string n'), .list 0 1 (s'.map cStr)] H (.val (.bool (heldUp x j n' s'))) := fun n' s' H hs' => impl_Locks_blocks_ok x j n' s' hx hs' H
    simp (disch := omega) only [t0, t1, t2, t3, t9, t20, t21, t22, hlt, go_sem, Nat.reduceEqDiff, Nat.reduceAdd, Nat.reduceLeDiff, reduceCtorEq, Int.reduceLT, Int.reduceLE, Int.reduceNeg, Int.reduceSub, Int.reduceAdd, Int.reduceToNat, ↓reduceIte]
    refine PureCall.call (hwait _) ?_
    by_cases hown : 0 ≤ askOf x j
    · obtain ⟨hn, _⟩ := askOf_job x j hown
      have hle : (askOf x j).toNat ≤ x.Asks.length := by omega
      have hlei : askOf x j ≤ (x.Asks.length : Int) := by omega
      have he : earlier x j = x.Asks.take (askOf x j).toNat := by unfold earlier; rw [if_pos hown]
      have hel : (x.Asks.take (askOf x j).toNat).length = (askOf x j).toNat := by rw [List.length_take]; omega
      simp (disch := omega) only [t0, t1, t2, t3, t9, hown, hle, take_map_asks, go_sem, Nat.reduceEqDiff, Nat.reduceAdd, Nat.reduceLeDiff, reduceCtorEq, Int.reduceLT, Int.reduceLE, Int.reduceNeg, Int.reduceSub, Int.reduceAdd, Int.reduceToNat, ↓reduceIte]
      have hmA' : ∀ a ∈ x.Asks.take (askOf x j).toNat, GAsk.sz a ≤ 1048576 := fun a ha => hmA a (List.mem_of_mem_take ha)
      refine Ex_loop (fun m t h => ∃ (k : Nat) (out' : List Int) (rest : List Row), t 0 = .iptr [.list 0 4 (x.Held.map GLock.cells), .list 0 4 (x.Asks.map GAsk.cells)] ∧ t 1 = .val (.int .i64 j) ∧ t 2 = .val (.string nm) ∧ t 3 = .list 0 1 (s.map cStr) ∧ t 9 = .own 0 out'.length ∧ t 60 = .list 0 4 ((x.Asks.take (askOf x j).toNat).map GAsk.cells) ∧ t 61 = .val (.int .i64 (x.Asks.take (askOf x j).toNat).length) ∧ t 62 = .val (.int .i64 k) ∧ h = ⟨.ty 2, 1, iCells out'⟩ :: rest ∧ m = (x.Asks.take (askOf x j).toNat).length - k ∧ k ≤ (x.Asks.take (askOf x j).toNat).length ∧ out'.length ≤ 1048576 + k ∧ out ++ frontI x j nm s (x.Asks.take (askOf x j).toNat) = out' ++ frontI x j nm s ((x.Asks.take (askOf x j).toNat).drop k)) (x.Asks.take (askOf x j).toNat).length ⟨0, out, rest, by simp [upd, t0], by simp [upd, t1], by simp [upd, t2], by simp [upd, t3], by simp [upd, t9], by simp [upd], by simp [upd], by simp [upd], rfl, rfl, Nat.zero_le _, by omega, rfl⟩ ?_
      clear t0 t1 t2 t3 t9 t20 t21 t22 hJ
      rintro J2 hJ m t h ⟨k, out', rest, t0, t1, t2, t3, t9, t60, t61, t62, rfl, rfl, hk, ho', hS'⟩
      by_cases hlt : k < (x.Asks.take (askOf x j).toNat).length
      · rw [frontI_at _ _ _ _ _ _ hlt] at hS'
        have hck := hmA' _ (List.getElem_mem hlt)
        have next : ∀ (t' : Nat → AV) (o : List Int) (rest' : List Row), t' 0 = t 0 → t' 1 = t 1 → t' 2 = t 2 → t' 3 = t 3 → t' 9 = .own 0 o.length → t' 60 = t 60 → t' 61 = t 61 → t' 62 = .val (.int .i64 (k + 1 : Nat)) → o.length ≤ 1048576 + (k + 1) → out ++ frontI x j nm s (x.Asks.take (askOf x j).toNat) = o ++ frontI x j nm s ((x.Asks.take (askOf x j).toNat).drop (k + 1)) → ∃ m, m < (x.Asks.take (askOf x j).toNat).length - k ∧ J2 m t' (⟨.ty 2, 1, iCells o⟩ :: rest') :=
          fun t' o rest' e0 e1 e2 e3 e9 e20 e21 e22 e e' => ⟨(x.Asks.take (askOf x j).toNat).length - (k + 1), by omega, hJ _ _ _ ⟨k + 1, o, rest', e0.trans t0, e1.trans t1, e2.trans t2, e3.trans t3, e9, e20.trans t60, e21.trans t61, e22, rfl, rfl, by omega, e, e'⟩⟩
        by_cases hj : (x.Asks.take (askOf x j).toNat)[k].Job = j
        · have hj' : ((x.Asks.take (askOf x j).toNat)[k].Job = j) = True := eq_true hj
          simp (disch := omega) only [t0, t1, t2, t3, t9, t60, t61, t62, hlt, cellsA, hj', go_sem, Nat.reduceEqDiff, Nat.reduceAdd, Nat.reduceLeDiff, reduceCtorEq, Int.reduceLT, Int.reduceLE, Int.reduceNeg, Int.reduceSub, Int.reduceAdd, Int.reduceToNat, ↓reduceIte]
          refine next _ out' _ (by simp [upd]) (by simp [upd]) (by simp [upd]) (by simp [upd]) (by simp [upd, t9]) (by simp [upd]) (by simp [upd]) (by simp [upd]) (by omega) ?_
          rw [hS', show askHit x j nm s (x.Asks.take (askOf x j).toNat)[k] = false by simp [askHit, hj, -List.getElem_take]]; rfl
        · have hj' : ((x.Asks.take (askOf x j).toNat)[k].Job = j) = False := eq_false hj
          simp (disch := omega) only [t0, t1, t2, t3, t9, t60, t61, t62, hlt, cellsA, hj', go_sem, Nat.reduceEqDiff, Nat.reduceAdd, Nat.reduceLeDiff, reduceCtorEq, Int.reduceLT, Int.reduceLE, Int.reduceNeg, Int.reduceSub, Int.reduceAdd, Int.reduceToNat, ↓reduceIte]
          refine PureCall.call (impl_conflict_ok _ _ _ _ (szList_len (GAsk.sz_Subs hck)) hs _) ?_
          by_cases hw : way (x.Asks.take (askOf x j).toNat)[k].Name (x.Asks.take (askOf x j).toNat)[k].Subs nm s = true
          · simp (disch := omega) only [t0, t1, t2, t3, t9, t60, t61, t62, hw, cellsA, go_sem, Nat.reduceEqDiff, Nat.reduceAdd, Nat.reduceLeDiff, reduceCtorEq, Int.reduceLT, Int.reduceLE, Int.reduceNeg, Int.reduceSub, Int.reduceAdd, Int.reduceToNat, ↓reduceIte]
            refine PureCall.call (hblk _ _ _ (szList_len (GAsk.sz_Subs hck))) ?_
            by_cases hb : heldUp x j (x.Asks.take (askOf x j).toNat)[k].Name (x.Asks.take (askOf x j).toNat)[k].Subs = true
            · simp (disch := omega) only [t0, t1, t2, t3, t9, t60, t61, t62, hb, cellsA, go_sem, Nat.reduceEqDiff, Nat.reduceAdd, Nat.reduceLeDiff, reduceCtorEq, Int.reduceLT, Int.reduceLE, Int.reduceNeg, Int.reduceSub, Int.reduceAdd, Int.reduceToNat, ↓reduceIte]
              refine next _ out' _ (by simp [upd]) (by simp [upd]) (by simp [upd]) (by simp [upd]) (by simp [upd, t9]) (by simp [upd]) (by simp [upd]) (by simp [upd]) (by omega) ?_
              rw [hS', show askHit x j nm s (x.Asks.take (askOf x j).toNat)[k] = false by simp [askHit, hb, -List.getElem_take]]; rfl
            · have hb' : heldUp x j (x.Asks.take (askOf x j).toNat)[k].Name (x.Asks.take (askOf x j).toNat)[k].Subs = false := by simpa using hb
              simp (disch := omega) only [t0, t1, t2, t3, t9, t60, t61, t62, hb', cellsA, go_sem, Nat.reduceEqDiff, Nat.reduceAdd, Nat.reduceLeDiff, reduceCtorEq, Int.reduceLT, Int.reduceLE, Int.reduceNeg, Int.reduceSub, Int.reduceAdd, Int.reduceToNat, ↓reduceIte]
              refine ⟨by omega, by omega, ?_⟩
              refine next _ (out' ++ [(x.Asks.take (askOf x j).toNat)[k].Job]) _ (by simp [upd]) (by simp [upd]) (by simp [upd]) (by simp [upd]) (by simp [upd]) (by simp [upd]) (by simp [upd]) (by simp [upd]) (by simp; omega) ?_
              rw [hS', show askHit x j nm s (x.Asks.take (askOf x j).toNat)[k] = true by simp [askHit, hj, hw, hb', -List.getElem_take]]; simp [-List.getElem_take]
          · have hw' : way (x.Asks.take (askOf x j).toNat)[k].Name (x.Asks.take (askOf x j).toNat)[k].Subs nm s = false := by simpa using hw
            simp (disch := omega) only [t0, t1, t2, t3, t9, t60, t61, t62, hw', go_sem, Nat.reduceEqDiff, Nat.reduceAdd, Nat.reduceLeDiff, reduceCtorEq, Int.reduceLT, Int.reduceLE, Int.reduceNeg, Int.reduceSub, Int.reduceAdd, Int.reduceToNat, ↓reduceIte]
            refine next _ out' _ (by simp [upd]) (by simp [upd]) (by simp [upd]) (by simp [upd]) (by simp [upd, t9]) (by simp [upd]) (by simp [upd]) (by simp [upd]) (by omega) ?_
            rw [hS', show askHit x j nm s (x.Asks.take (askOf x j).toNat)[k] = false by simp [askHit, hw', -List.getElem_take]]; rfl
      · rw [frontI_end _ _ _ _ _ _ (by omega), List.append_nil] at hS'
        have hfr : front x j nm s = out' := by rw [front_eq, he, hS, hS']
        simp (disch := omega) only [t0, t1, t2, t3, t9, t60, t61, t62, hlt, go_sem, Nat.reduceEqDiff, Nat.reduceAdd, Nat.reduceLeDiff, reduceCtorEq, Int.reduceLT, Int.reduceLE, Int.reduceNeg, Int.reduceSub, Int.reduceAdd, Int.reduceToNat, ↓reduceIte]
        refine slices_Sort_int64_ok rfl (by omega) ?_
        have hsl : (sortI out').length = out'.length := sortI_len out'
        simp (disch := omega) only [t0, t1, t2, t3, t9, t60, t61, t62, go_sem, Nat.reduceEqDiff, Nat.reduceAdd, Nat.reduceLeDiff, reduceCtorEq, Int.reduceLT, Int.reduceLE, Int.reduceNeg, Int.reduceSub, Int.reduceAdd, Int.reduceToNat, ↓reduceIte]
        rw [← hsl]
        refine slices_Compact_int64_ok (by omega) rfl ?_
        intro a r' hr hfb
        simp (disch := omega) only [t0, t1, t2, t3, t9, t60, t61, t62, go_sem, Nat.reduceEqDiff, Nat.reduceAdd, Nat.reduceLeDiff, reduceCtorEq, Int.reduceLT, Int.reduceLE, Int.reduceNeg, Int.reduceSub, Int.reduceAdd, Int.reduceToNat, ↓reduceIte]
        rw [inFront, hfr]
        first | exact none_res hfb (by simp) | exact ⟨none_res hfb (by simp), trivial⟩
    · simp (disch := omega) only [t0, t1, t2, t3, t9, hown, go_sem, Nat.reduceEqDiff, Nat.reduceAdd, Nat.reduceLeDiff, reduceCtorEq, Int.reduceLT, Int.reduceLE, Int.reduceNeg, Int.reduceSub, Int.reduceAdd, Int.reduceToNat, ↓reduceIte]
      have hmA' := hmA
      have he : earlier x j = x.Asks := by unfold earlier; rw [if_neg hown]
      refine Ex_loop (fun m t h => ∃ (k : Nat) (out' : List Int) (rest : List Row), t 0 = .iptr [.list 0 4 (x.Held.map GLock.cells), .list 0 4 (x.Asks.map GAsk.cells)] ∧ t 1 = .val (.int .i64 j) ∧ t 2 = .val (.string nm) ∧ t 3 = .list 0 1 (s.map cStr) ∧ t 9 = .own 0 out'.length ∧ t 60 = .list 0 4 ((x.Asks).map GAsk.cells) ∧ t 61 = .val (.int .i64 (x.Asks).length) ∧ t 62 = .val (.int .i64 k) ∧ h = ⟨.ty 2, 1, iCells out'⟩ :: rest ∧ m = (x.Asks).length - k ∧ k ≤ (x.Asks).length ∧ out'.length ≤ 1048576 + k ∧ out ++ frontI x j nm s (x.Asks) = out' ++ frontI x j nm s ((x.Asks).drop k)) (x.Asks).length ⟨0, out, rest, by simp [upd, t0], by simp [upd, t1], by simp [upd, t2], by simp [upd, t3], by simp [upd, t9], by simp [upd], by simp [upd], by simp [upd], rfl, rfl, Nat.zero_le _, by omega, rfl⟩ ?_
      clear t0 t1 t2 t3 t9 t20 t21 t22 hJ
      rintro J2 hJ m t h ⟨k, out', rest, t0, t1, t2, t3, t9, t60, t61, t62, rfl, rfl, hk, ho', hS'⟩
      by_cases hlt : k < (x.Asks).length
      · rw [frontI_at _ _ _ _ _ _ hlt] at hS'
        have hck := hmA' _ (List.getElem_mem hlt)
        have next : ∀ (t' : Nat → AV) (o : List Int) (rest' : List Row), t' 0 = t 0 → t' 1 = t 1 → t' 2 = t 2 → t' 3 = t 3 → t' 9 = .own 0 o.length → t' 60 = t 60 → t' 61 = t 61 → t' 62 = .val (.int .i64 (k + 1 : Nat)) → o.length ≤ 1048576 + (k + 1) → out ++ frontI x j nm s (x.Asks) = o ++ frontI x j nm s ((x.Asks).drop (k + 1)) → ∃ m, m < (x.Asks).length - k ∧ J2 m t' (⟨.ty 2, 1, iCells o⟩ :: rest') :=
          fun t' o rest' e0 e1 e2 e3 e9 e20 e21 e22 e e' => ⟨(x.Asks).length - (k + 1), by omega, hJ _ _ _ ⟨k + 1, o, rest', e0.trans t0, e1.trans t1, e2.trans t2, e3.trans t3, e9, e20.trans t60, e21.trans t61, e22, rfl, rfl, by omega, e, e'⟩⟩
        by_cases hj : (x.Asks)[k].Job = j
        · have hj' : ((x.Asks)[k].Job = j) = True := eq_true hj
          simp (disch := omega) only [t0, t1, t2, t3, t9, t60, t61, t62, hlt, cellsA, hj', go_sem, Nat.reduceEqDiff, Nat.reduceAdd, Nat.reduceLeDiff, reduceCtorEq, Int.reduceLT, Int.reduceLE, Int.reduceNeg, Int.reduceSub, Int.reduceAdd, Int.reduceToNat, ↓reduceIte]
          refine next _ out' _ (by simp [upd]) (by simp [upd]) (by simp [upd]) (by simp [upd]) (by simp [upd, t9]) (by simp [upd]) (by simp [upd]) (by simp [upd]) (by omega) ?_
          rw [hS', show askHit x j nm s (x.Asks)[k] = false by simp [askHit, hj, -List.getElem_take]]; rfl
        · have hj' : ((x.Asks)[k].Job = j) = False := eq_false hj
          simp (disch := omega) only [t0, t1, t2, t3, t9, t60, t61, t62, hlt, cellsA, hj', go_sem, Nat.reduceEqDiff, Nat.reduceAdd, Nat.reduceLeDiff, reduceCtorEq, Int.reduceLT, Int.reduceLE, Int.reduceNeg, Int.reduceSub, Int.reduceAdd, Int.reduceToNat, ↓reduceIte]
          refine PureCall.call (impl_conflict_ok _ _ _ _ (szList_len (GAsk.sz_Subs hck)) hs _) ?_
          by_cases hw : way (x.Asks)[k].Name (x.Asks)[k].Subs nm s = true
          · simp (disch := omega) only [t0, t1, t2, t3, t9, t60, t61, t62, hw, cellsA, go_sem, Nat.reduceEqDiff, Nat.reduceAdd, Nat.reduceLeDiff, reduceCtorEq, Int.reduceLT, Int.reduceLE, Int.reduceNeg, Int.reduceSub, Int.reduceAdd, Int.reduceToNat, ↓reduceIte]
            refine PureCall.call (hblk _ _ _ (szList_len (GAsk.sz_Subs hck))) ?_
            by_cases hb : heldUp x j (x.Asks)[k].Name (x.Asks)[k].Subs = true
            · simp (disch := omega) only [t0, t1, t2, t3, t9, t60, t61, t62, hb, cellsA, go_sem, Nat.reduceEqDiff, Nat.reduceAdd, Nat.reduceLeDiff, reduceCtorEq, Int.reduceLT, Int.reduceLE, Int.reduceNeg, Int.reduceSub, Int.reduceAdd, Int.reduceToNat, ↓reduceIte]
              refine next _ out' _ (by simp [upd]) (by simp [upd]) (by simp [upd]) (by simp [upd]) (by simp [upd, t9]) (by simp [upd]) (by simp [upd]) (by simp [upd]) (by omega) ?_
              rw [hS', show askHit x j nm s (x.Asks)[k] = false by simp [askHit, hb, -List.getElem_take]]; rfl
            · have hb' : heldUp x j (x.Asks)[k].Name (x.Asks)[k].Subs = false := by simpa using hb
              simp (disch := omega) only [t0, t1, t2, t3, t9, t60, t61, t62, hb', cellsA, go_sem, Nat.reduceEqDiff, Nat.reduceAdd, Nat.reduceLeDiff, reduceCtorEq, Int.reduceLT, Int.reduceLE, Int.reduceNeg, Int.reduceSub, Int.reduceAdd, Int.reduceToNat, ↓reduceIte]
              refine ⟨by omega, by omega, ?_⟩
              refine next _ (out' ++ [(x.Asks)[k].Job]) _ (by simp [upd]) (by simp [upd]) (by simp [upd]) (by simp [upd]) (by simp [upd]) (by simp [upd]) (by simp [upd]) (by simp [upd]) (by simp; omega) ?_
              rw [hS', show askHit x j nm s (x.Asks)[k] = true by simp [askHit, hj, hw, hb', -List.getElem_take]]; simp [-List.getElem_take]
          · have hw' : way (x.Asks)[k].Name (x.Asks)[k].Subs nm s = false := by simpa using hw
            simp (disch := omega) only [t0, t1, t2, t3, t9, t60, t61, t62, hw', go_sem, Nat.reduceEqDiff, Nat.reduceAdd, Nat.reduceLeDiff, reduceCtorEq, Int.reduceLT, Int.reduceLE, Int.reduceNeg, Int.reduceSub, Int.reduceAdd, Int.reduceToNat, ↓reduceIte]
            refine next _ out' _ (by simp [upd]) (by simp [upd]) (by simp [upd]) (by simp [upd]) (by simp [upd, t9]) (by simp [upd]) (by simp [upd]) (by simp [upd]) (by omega) ?_
            rw [hS', show askHit x j nm s (x.Asks)[k] = false by simp [askHit, hw', -List.getElem_take]]; rfl
      · rw [frontI_end _ _ _ _ _ _ (by omega), List.append_nil] at hS'
        have hfr : front x j nm s = out' := by rw [front_eq, he, hS, hS']
        simp (disch := omega) only [t0, t1, t2, t3, t9, t60, t61, t62, hlt, go_sem, Nat.reduceEqDiff, Nat.reduceAdd, Nat.reduceLeDiff, reduceCtorEq, Int.reduceLT, Int.reduceLE, Int.reduceNeg, Int.reduceSub, Int.reduceAdd, Int.reduceToNat, ↓reduceIte]
        refine slices_Sort_int64_ok rfl (by omega) ?_
        have hsl : (sortI out').length = out'.length := sortI_len out'
        simp (disch := omega) only [t0, t1, t2, t3, t9, t60, t61, t62, go_sem, Nat.reduceEqDiff, Nat.reduceAdd, Nat.reduceLeDiff, reduceCtorEq, Int.reduceLT, Int.reduceLE, Int.reduceNeg, Int.reduceSub, Int.reduceAdd, Int.reduceToNat, ↓reduceIte]
        rw [← hsl]
        refine slices_Compact_int64_ok (by omega) rfl ?_
        intro a r' hr hfb
        simp (disch := omega) only [t0, t1, t2, t3, t9, t60, t61, t62, go_sem, Nat.reduceEqDiff, Nat.reduceAdd, Nat.reduceLeDiff, reduceCtorEq, Int.reduceLT, Int.reduceLE, Int.reduceNeg, Int.reduceSub, Int.reduceAdd, Int.reduceToNat, ↓reduceIte]
        rw [inFront, hfr]
        first | exact none_res hfb (by simp) | exact ⟨none_res hfb (by simp), trivial⟩
theorem impl_Locks_inFront_ok (x : GLocks) (j : Int) (nm : ByteArray) (s : List ByteArray) (hx : GLocks.sz x ≤ 1048576) (hs : s.length ≤ 1048576) (h : List Row) : PureCall Tryz.prog 80 [.iptr (GLocks.cells x), .val (.int .i64 j), .val (.string nm), .list 0 1 (s.map cStr)] h (.list 0 1 (iCells (inFront x j nm s))) := (impl_Locks_inFront_fresh x j nm s hx hs).pure rfl h
end Go.Proofs.YtodgohgdnmifaaaGreatDoor
