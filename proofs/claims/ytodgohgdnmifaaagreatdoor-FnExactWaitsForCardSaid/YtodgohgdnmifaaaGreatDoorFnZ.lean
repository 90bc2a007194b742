/-
  Contracts of functions of this program, over abstract values. Conditions: as each theorem says.
-/
import Derived.Test.YtodgohgdnmifaaaGreatDoorFnY
import Derived.Test.YtodgohgdnmifaaaGreatDoorShelfB
import Derived.Test.YtodgohgdnmifaaaGreatDoorAwC
namespace Go.Proofs.YtodgohgdnmifaaaGreatDoor
open Go.AW
set_option linter.unusedVariables false
set_option linter.unusedSimpArgs false
set_option maxRecDepth 4000

theorem slices_Sort_int64_ok {zs : List Int} {l : Nat} {H : List Row} (hl : H[l]? = some ⟨.ty 2, 1, iCells zs⟩) (hlen : zs.length ≤ 4000000) {K : AV → List Row → Prop} (hk : K (.tup []) (H.set l ⟨.ty 2, 1, iCells (sortI zs)⟩)) :
    callSem Tryz.prog 45 [.own l zs.length] H K :=
  sort_own (fun blk off cap zs w h1 h2 h3 => Tryz.slices_Sort_int blk off cap zs w h1 h2 h3) (fun p cap w => Tryz.slices_Sort_int_none p cap w) hl (by omega) hk
theorem compactL_ne : ∀ (x : Int) (r : List Int), ∃ r', compactL (x :: r) = x :: r'
  | x, [] => ⟨[], rfl⟩
  | x, y :: r => by
    simp only [compactL]
    by_cases h : x = y
    · subst h; rw [if_pos rfl]; exact compactL_ne x r
    · rw [if_neg h]; exact ⟨_, rfl⟩
theorem compactL_nil (zs : List Int) : compactL zs = [] ↔ zs = [] := by
  cases zs with
  | nil => simp [compactL]
  | cons x r => obtain ⟨r', e⟩ := compactL_ne x r; simp [e]
theorem compactL_at (zs : List Int) (a : Nat) (h0 : 0 < a) (h : a < zs.length) : compactL (zs.drop (a - 1)) = if zs[a - 1] = zs[a] then compactL (zs.drop a) else zs[a - 1] :: compactL (zs.drop a) := by
  rw [List.drop_eq_getElem_cons (show a - 1 < zs.length by omega)]
  rw [show a - 1 + 1 = a by omega, List.drop_eq_getElem_cons h]
  rfl
theorem compactL_last (zs : List Int) (h : 0 < zs.length) : compactL (zs.drop (zs.length - 1)) = [zs[zs.length - 1]] := by
  rw [List.drop_eq_getElem_cons (by omega), List.drop_eq_nil_of_le (by omega)]; rfl
def c_slices_Compact_int64 : LC :=
 .seq (.ops [⟨some 2, none, .mov (.const (.slice none 0 0))⟩]) (.seq (.seq (.ops [⟨some 6, none, .mov (.tmp 0)⟩, ⟨some 7, none, .lenSl (.tmp 6)⟩, ⟨some 8, none, .bin .lss false (.tmp 7) (.const (.int .i64 2))⟩]) (.cond
 (.tmp 8) (.seq (.ops [⟨some 9, none, .mov (.tmp 0)⟩, ⟨some 2, none, .mov (.tmp 9)⟩]) (.ret)) (.skip))) (.seq (.seq (.ops [⟨some 3, none, .mov (.const (.int .i64 1))⟩]) (.block 0 (.loop (.seq (.seq (.ops [⟨some 10, none,
 .mov (.tmp 3)⟩, ⟨some 11, none, .mov (.tmp 0)⟩, ⟨some 12, none, .lenSl (.tmp 11)⟩, ⟨some 13, none, .bin .lss false (.tmp 10) (.tmp 12)⟩]) (.cond (.tmp 13) (.skip) (.exit 0))) (.seq (.block 1 (.seq (.dops [⟨some 16, none,
 .mov (.tmp 0)⟩, ⟨some 17, none, .mov (.tmp 3)⟩, ⟨some 18, none, .indexAddr 1 (.tmp 16) (.tmp 17)⟩, ⟨some 19, none, .load none (.tmp 18)⟩, ⟨some 20, none, .mov (.tmp 0)⟩, ⟨some 21, none, .mov (.tmp 3)⟩, ⟨some 22, none,
 .bin .sub false (.tmp 21) (.const (.int .i64 1))⟩, ⟨some 23, none, .indexAddr 1 (.tmp 20) (.tmp 22)⟩, ⟨some 24, none, .load none (.tmp 23)⟩, ⟨some 25, none, .bin .eql false (.tmp 19) (.tmp 24)⟩]) (.cond (.tmp 25) (.seq
 (.ops [⟨some 26, none, .mov (.tmp 0)⟩, ⟨some 27, none, .mov (.tmp 3)⟩, ⟨some 28, none, .sliceSl 1 (.tmp 26) (some (.tmp 27)) none⟩, ⟨some 4, none, .mov (.tmp 28)⟩]) (.seq (.seq (.ops [⟨some 5, none, .mov (.const (.int
 .i64 1))⟩]) (.block 2 (.loop (.seq (.seq (.ops [⟨some 29, none, .mov (.tmp 5)⟩, ⟨some 30, none, .mov (.tmp 4)⟩, ⟨some 31, none, .lenSl (.tmp 30)⟩, ⟨some 32, none, .bin .lss false (.tmp 29) (.tmp 31)⟩]) (.cond (.tmp 32)
 (.skip) (.exit 2))) (.seq (.block 3 (.seq (.dops [⟨some 35, none, .mov (.tmp 4)⟩, ⟨some 36, none, .mov (.tmp 5)⟩, ⟨some 37, none, .indexAddr 1 (.tmp 35) (.tmp 36)⟩, ⟨some 38, none, .load none (.tmp 37)⟩, ⟨some 39, none,
 .mov (.tmp 4)⟩, ⟨some 40, none, .mov (.tmp 5)⟩, ⟨some 41, none, .bin .sub false (.tmp 40) (.const (.int .i64 1))⟩, ⟨some 42, none, .indexAddr 1 (.tmp 39) (.tmp 41)⟩, ⟨some 43, none, .load none (.tmp 42)⟩, ⟨some 44, none,
 .bin .neq false (.tmp 38) (.tmp 43)⟩]) (.cond (.tmp 44) (.seq (.ops [⟨some 45, none, .mov (.tmp 0)⟩, ⟨some 46, none, .mov (.tmp 3)⟩, ⟨some 47, none, .mov (.tmp 4)⟩, ⟨some 48, none, .mov (.tmp 5)⟩, ⟨some 49, none,
 .indexAddr 1 (.tmp 47) (.tmp 48)⟩, ⟨some 50, none, .load none (.tmp 49)⟩, ⟨some 51, none, .indexAddr 1 (.tmp 45) (.tmp 46)⟩, ⟨none, none, .store 1 (.tmp 51) (.tmp 50)⟩]) (.ops [⟨some 52, none, .mov (.tmp 3)⟩, ⟨some 53,
 none, .bin .add false (.tmp 52) (.const (.int .i64 1))⟩, ⟨some 3, none, .mov (.tmp 53)⟩])) (.skip)))) (.ops [⟨some 33, none, .mov (.tmp 5)⟩, ⟨some 34, none, .bin .add false (.tmp 33) (.const (.int .i64 1))⟩, ⟨some 5,
 none, .mov (.tmp 34)⟩])))))) (.seq (.ops [⟨some 54, none, .mov (.tmp 0)⟩, ⟨some 55, none, .mov (.tmp 3)⟩, ⟨some 56, none, .sliceSl 1 (.tmp 54) (some (.tmp 55)) none⟩, ⟨none, none, .clear 2 1 (.int .i64 0) (.tmp 56)⟩])
 (.seq (.ops [⟨some 57, none, .mov (.tmp 0)⟩, ⟨some 58, none, .mov (.tmp 3)⟩, ⟨some 59, none, .sliceSl 1 (.tmp 57) none (some (.tmp 58))⟩, ⟨some 2, none, .mov (.tmp 59)⟩]) (.ret))))) (.skip)))) (.ops [⟨some 14, none, .mov
 (.tmp 3)⟩, ⟨some 15, none, .bin .add false (.tmp 14) (.const (.int .i64 1))⟩, ⟨some 3, none, .mov (.tmp 15)⟩])))))) (.seq (.ops [⟨some 60, none, .mov (.tmp 0)⟩, ⟨some 2, none, .mov (.tmp 60)⟩]) (.ret))))
def lf_slices_Compact_int64 : LF := { np := 1, N := 61, body := c_slices_Compact_int64, res := [.tmp 2] }
theorem low_slices_Compact_int64 : LowF Tryz.prog Tryz.f121 lf_slices_Compact_int64 := LowF.mk' (by kernel_rfl) (by kernel_rfl) (by kernel_rfl) (by decide)

theorem slices_Compact_int64_ok {zs : List Int} (hz : zs.length ≤ 4000000) {l : Nat} {H : List Row} (hl : H[l]? = some ⟨.ty 2, 1, iCells zs⟩) {K : AV → List Row → Prop}
    (hK : ∀ a r', AW.resolve (H.set l r') 2 a = some (.list 0 1 (iCells (compactL zs))) → FreshB l (l + 1) (H.set l r') a (.list 0 1 (iCells (compactL zs))) → K a (H.set l r')) : callSem Tryz.prog 121 [.own l zs.length] H K := by
  refine call_of_fnWp mixed Tryz.func121 low_slices_Compact_int64 (fnWp_of rfl ?_)
  have hself : H.set l ⟨.ty 2, 1, iCells zs⟩ = H := by have := set_self hl; simpa using this
  have hget : ∀ r : Row, (H.set l r)[l]? = some r := fun r => get_set_eq hl
  have hown : ∀ zs', zs' = compactL zs → zs' = zs → K (.own l zs.length) H := by
    intro zs' e1 e2
    have := hK (.own l zs.length) ⟨.ty 2, 1, iCells zs⟩ (by
      rw [hself, ← e1, e2]
      exact res_own hl (iCells_len _) (iCells_flat _)) (by
      rw [hself, ← e1, e2]
      exact ⟨2, [l], ⟨_, iCells zs, [], hl, iCells_len zs, OwnLL_ofInts zs, rfl, rfl⟩, by simp, by simp⟩)
    rwa [hself] at this
  by_cases h2 : (zs.length : Int) < 2
  · simp (disch := omega) only [lf_slices_Compact_int64, c_slices_Compact_int64, hl, h2, go_sem, Nat.reduceEqDiff, Nat.reduceAdd, Nat.reduceLeDiff, reduceCtorEq, Int.reduceLT, Int.reduceLE, Int.reduceNeg, Int.reduceSub, Int.reduceAdd, Int.reduceToNat, ↓reduceIte]
    refine hown (compactL zs) rfl ?_
    match zs, h2 with
    | [], _ => rfl
    | [x], _ => rfl
    | x :: y :: r, h2 => simp at h2; omega
  simp (disch := omega) only [lf_slices_Compact_int64, c_slices_Compact_int64, hl, h2, go_sem, Nat.reduceEqDiff, Nat.reduceAdd, Nat.reduceLeDiff, reduceCtorEq, Int.reduceLT, Int.reduceLE, Int.reduceNeg, Int.reduceSub, Int.reduceAdd, Int.reduceToNat, ↓reduceIte]
  refine Ex_loop (fun m t h => ∃ k : Nat, t 0 = .own l zs.length ∧ t 3 = .val (.int .i64 k) ∧ h = H ∧ m = zs.length - k ∧ 1 ≤ k ∧ k ≤ zs.length ∧ compactL zs = zs.take (k - 1) ++ compactL (zs.drop (k - 1))) (zs.length - 1) ⟨1, rfl, rfl, rfl, rfl, Nat.le_refl _, by omega, by simp⟩ ?_
  rintro J hJ m t h ⟨k, t0, t3, rfl, rfl, hk1, hk, hS⟩
  by_cases hlt : k < zs.length
  · have hg := iCells_get zs k hlt
    have hg1 := iCells_get zs (k - 1) (by omega)
    have hkp : ((k : Int) - 1) = ((k - 1 : Nat) : Int) := by omega
    have hlt1 : k - 1 < zs.length := by omega
    rw [compactL_at zs k hk1 hlt] at hS
    by_cases he : zs[k] = zs[k - 1]
    · rw [if_pos he.symm] at hS
      have he' : (zs[k] = zs[k - 1]) = True := eq_true he
      simp (disch := omega) only [t0, t3, hl, hlt, hlt1, hg, hg1, hkp, he', go_sem, Nat.reduceEqDiff, Nat.reduceAdd, Nat.reduceLeDiff, reduceCtorEq, Int.reduceLT, Int.reduceLE, Int.reduceNeg, Int.reduceSub, Int.reduceAdd, Int.reduceToNat, ↓reduceIte]
      have hes : zs.take k = zs.take (k - 1) ++ [zs[k - 1]] := by rw [List.take_append_getElem hlt1]; congr 1; omega
      have hS2 : compactL zs = zs.take k ++ (compactL (zs.drop k)).drop 1 := by
        rw [hS, hes]
        obtain ⟨r', e⟩ := compactL_ne zs[k] (zs.drop (k + 1))
        rw [← List.drop_eq_getElem_cons hlt] at e
        rw [e, he, List.append_assoc]; rfl
      refine Ex_loop (fun m t h' => ∃ (c k2 : Nat) (ws : List Int), t 0 = .own l zs.length ∧ t 3 = .val (.int .i64 c) ∧ t 4 = .sub l zs.length k zs.length ∧ t 5 = .val (.int .i64 k2) ∧ h' = h.set l ⟨.ty 2, 1, iCells ws⟩ ∧ m = zs.length - (k + k2) ∧ 1 ≤ k2 ∧ k + k2 ≤ zs.length ∧ c < k + k2 ∧ ws.length = zs.length ∧ (∀ i, k + k2 - 1 ≤ i → ws[i]? = zs[i]?) ∧ compactL zs = ws.take c ++ (compactL (zs.drop (k + k2 - 1))).drop 1) (zs.length - (k + 1))
        ⟨k, 1, zs, by simp [upd, t0], by simp [upd, t3], by simp [upd], by simp [upd], hself.symm, rfl, Nat.le_refl _, by omega, by omega, rfl, fun _ _ => rfl, by rw [show k + 1 - 1 = k by omega]; exact hS2⟩ ?_
      clear hS hS2 hg hg1 t0 t3
      rintro J2 hJ2 m t h' ⟨c, k2, ws, t0, t3, t4, t5, rfl, rfl, hk2, hkk, hc, hwl, hws, hS⟩
      by_cases hlt2 : k + k2 < zs.length
      · have hcond : ((k : Int) + (k2 : Int) < (zs.length : Int)) = True := eq_true (by omega)
        have hcond1 : ((k : Int) + ((k2 - 1 : Nat) : Int) < (zs.length : Int)) = True := eq_true (by omega)
        have hl2 : ((k2 : Int) < ((zs.length - k : Nat) : Int)) = True := eq_true (by omega)
        have hp2 : ((k2 : Int) - 1) = ((k2 - 1 : Nat) : Int) := by omega
        have g1 : (iCells ws)[k + k2]? = some [.val (.int .i64 zs[k + k2])] := by
          have : ws[k + k2]? = some zs[k + k2] := by rw [hws _ (by omega)]; exact List.getElem?_eq_getElem hlt2
          simp [iCells, this]
        have hlt3 : k + (k2 - 1) < zs.length := by omega
        have g2 : (iCells ws)[k + (k2 - 1)]? = some [.val (.int .i64 zs[k + (k2 - 1)])] := by
          have : ws[k + (k2 - 1)]? = some zs[k + (k2 - 1)] := by rw [hws _ (by omega)]; exact List.getElem?_eq_getElem hlt3
          simp [iCells, this]
        have hcw : c < ws.length := by omega
        have g3 := iCells_get ws c hcw
        have hcz : ((c : Int) < (zs.length : Int)) = True := eq_true (by omega)
        have hidx : k + k2 - 1 = k + (k2 - 1) := by omega
        rw [hidx] at hS
        have hat := compactL_at zs (k + k2) (by omega) hlt2
        simp only [hidx] at hat
        rw [hat] at hS
        by_cases hne : zs[k + k2] = zs[k + (k2 - 1)]
        · have hne' : (zs[k + k2] = zs[k + (k2 - 1)]) = True := eq_true hne
          rw [if_pos hne.symm] at hS
          simp (disch := omega) only [t0, t3, t4, t5, hget, hwl, hcond, hcond1, hl2, hp2, g1, g2, hne', hk, go_sem, Nat.reduceEqDiff, Nat.reduceAdd, Nat.reduceLeDiff, reduceCtorEq, Int.reduceLT, Int.reduceLE, Int.reduceNeg, Int.reduceSub, Int.reduceAdd, Int.reduceToNat, ↓reduceIte]
          exact ⟨zs.length - (k + (k2 + 1)), by omega, hJ2 _ _ _ ⟨c, k2 + 1, ws, by simp [upd, t0], by simp [upd, t3], by simp [upd, t4], by simp [upd], rfl, rfl, by omega, by omega, by omega, hwl, fun i hi => hws i (by omega), by rw [show k + (k2 + 1) - 1 = k + k2 by omega]; exact hS⟩⟩
        · have hne' : (zs[k + k2] = zs[k + (k2 - 1)]) = False := eq_false hne
          rw [if_neg (fun q => hne q.symm)] at hS
          simp (disch := omega) only [t0, t3, t4, t5, hget, hwl, hcond, hcond1, hl2, hp2, g1, g2, g3, hne', hcz, hk, List.set_set, iCells_set, go_sem, Nat.reduceEqDiff, Nat.reduceAdd, Nat.reduceLeDiff, reduceCtorEq, Int.reduceLT, Int.reduceLE, Int.reduceNeg, Int.reduceSub, Int.reduceAdd, Int.reduceToNat, ↓reduceIte]
          refine ⟨zs.length - (k + (k2 + 1)), by omega, hJ2 _ _ _ ⟨c + 1, k2 + 1, ws.set c zs[k + k2], by simp [upd, t0], by simp [upd], by simp [upd, t4], by simp [upd], rfl, rfl, by omega, by omega, by omega, by simp [hwl], fun i hi => ?_, ?_⟩⟩
          · rw [List.getElem?_set_ne (by omega)]; exact hws i (by omega)
          · rw [show k + (k2 + 1) - 1 = k + k2 by omega, hS]
            obtain ⟨r', e⟩ := compactL_ne zs[k + k2] (zs.drop (k + k2 + 1))
            rw [← List.drop_eq_getElem_cons hlt2] at e
            rw [e]
            have : (ws.set c zs[k + k2]).take (c + 1) = ws.take c ++ [zs[k + k2]] := by
              rw [← List.take_append_getElem (by simpa using hcw)]
              simp [List.take_set_of_le]
            rw [this]; simp
      · have hend : k + k2 - 1 = zs.length - 1 := by omega
        have hl2 : ((k2 : Int) < ((zs.length - k : Nat) : Int)) = False := eq_false (by omega)
        have hfin : compactL zs = ws.take c := by rw [hS, hend, compactL_last zs (by omega)]; simp
        simp (disch := omega) only [t0, t3, t4, t5, hget, hwl, hl2, hk, List.set_set, go_sem, Nat.reduceEqDiff, Nat.reduceAdd, Nat.reduceLeDiff, reduceCtorEq, Int.reduceLT, Int.reduceLE, Int.reduceNeg, Int.reduceSub, Int.reduceAdd, Int.reduceToNat, ↓reduceIte]
        refine ⟨by omega, ?_⟩
        have hrow : ∀ A : List (List AV), A = (iCells ws).take c ++ (List.replicate (zs.length - c) [AV.val (Value.int .i64 0)] ++ (iCells ws).drop zs.length) → A = iCells (ws.take c ++ List.replicate (zs.length - c) 0) := by
          intro A e
          rw [e, List.drop_eq_nil_of_le (by rw [iCells_len]; omega), List.append_nil, iCells_take, ← iCells_app]
          congr 1
          simp [iCells]
        rw [if_pos ⟨by simp [iCells_len, hwl]; omega, by omega⟩]
        have hr := hrow _ rfl
        have hlen2 : (ws.take c ++ List.replicate (zs.length - c) (0 : Int)).length = zs.length := by simp; omega
        have hcut : ((iCells (ws.take c ++ List.replicate (zs.length - c) (0 : Int))).take c).drop 0 = iCells (compactL zs) := by
          rw [List.drop_zero, iCells_take, hfin]
          congr 1
          rw [List.take_append_of_le_length (by simp; omega), List.take_take]; simp
        refine hK _ _ ?_ ?_
        · rw [hr, res_sub (n := 0) (hget _) (by rw [iCells_len, hlen2]) (iCells_flat _)]
          exact congrArg (fun q => some (AV.list 0 1 q)) hcut
        · rw [hr]
          exact ⟨2, [l], ⟨_, _, [], hget _, by rw [iCells_len, hlen2], OwnLL_ofInts _, congrArg (AV.list 0 1) hcut.symm, rfl⟩, by simp, by simp⟩
    · rw [if_neg (fun q => he q.symm)] at hS
      have he' : (zs[k] = zs[k - 1]) = False := eq_false he
      simp (disch := omega) only [t0, t3, hl, hlt, hlt1, hg, hg1, hkp, he', go_sem, Nat.reduceEqDiff, Nat.reduceAdd, Nat.reduceLeDiff, reduceCtorEq, Int.reduceLT, Int.reduceLE, Int.reduceNeg, Int.reduceSub, Int.reduceAdd, Int.reduceToNat, ↓reduceIte]
      refine ⟨zs.length - (k + 1), by omega, hJ _ _ _ ⟨k + 1, by simp [upd, t0], by simp [upd], rfl, rfl, by omega, by omega, ?_⟩⟩
      rw [hS, show k + 1 - 1 = k by omega]
      have e : zs.take k = zs.take (k - 1) ++ [zs[k - 1]] := by rw [List.take_append_getElem hlt1]; congr 1; omega
      rw [e, List.append_assoc]; rfl
  · simp (disch := omega) only [t0, t3, hl, hlt, go_sem, Nat.reduceEqDiff, Nat.reduceAdd, Nat.reduceLeDiff, reduceCtorEq, Int.reduceLT, Int.reduceLE, Int.reduceNeg, Int.reduceSub, Int.reduceAdd, Int.reduceToNat, ↓reduceIte]
    refine hown (compactL zs) rfl ?_
    have : k - 1 = zs.length - 1 := by omega
    rw [hS, this, compactL_last zs (by omega)]
    rw [List.take_append_getElem, show zs.length - 1 + 1 = zs.length by omega, List.take_length]
end Go.Proofs.YtodgohgdnmifaaaGreatDoor
