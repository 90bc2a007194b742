/-
  Contracts of functions of this program, over abstract values. Conditions: as each theorem says.
-/
import Derived.Test.YtkddmakjmjmokaaGreatDoorFnRA
import Derived.Test.YtkddmakjmjmokaaGreatDoorAwAdopt
import Derived.Test.YtkddmakjmjmokaaGreatDoorAwC
import Derived.Test.YtkddmakjmjmokaaGreatDoorPlDist
import Derived.Test.YtkddmakjmjmokaaGreatDoorShelfS
import Derived.Test.YtkddmakjmjmokaaGreatDoorDistA
namespace Go.Proofs.YtkddmakjmjmokaaGreatDoor
open Go.AW
set_option linter.unusedVariables false
set_option linter.unusedSimpArgs false
set_option maxRecDepth 4000

theorem get_set_eqI {α : Type} {h : List α} {l : Nat} {r r' : α} (hl : h[l]? = some r) : (h.set l r')[l]? = some r' := by
  rw [List.getElem?_set_self (List.getElem?_eq_some_iff.1 hl).1]
/-- A slice of texts that the call owns. -/
def TxtS (h : List Row) (a : AV) (S : List (List UInt8)) (l : Nat) (zs : List (List UInt8)) : Prop := h[l]? = some ⟨.ty 9, 1, tCells zs⟩ ∧ zs.take S.length = S ∧ (a = .sub l zs.length 0 S.length ∨ (a = .own l S.length ∧ zs = S))
def c_slices_Compact_string : LC :=
 .seq (.ops [⟨some 2, none, .mov (.const (.slice none 0 0))⟩]) (.seq (.seq (.ops [⟨some 6, none, .mov (.tmp 0)⟩, ⟨some 7, none, .lenSl (.tmp 6)⟩, ⟨some 8, none, .bin .lss false (.tmp 7) (.const (.int .i64 2))⟩]) (.cond
 (.tmp 8) (.seq (.ops [⟨some 9, none, .mov (.tmp 0)⟩, ⟨some 2, none, .mov (.tmp 9)⟩]) (.ret)) (.skip))) (.seq (.seq (.ops [⟨some 3, none, .mov (.const (.int .i64 1))⟩]) (.block 0 (.loop (.seq (.seq (.ops [⟨some 10, none,
 .mov (.tmp 3)⟩, ⟨some 11, none, .mov (.tmp 0)⟩, ⟨some 12, none, .lenSl (.tmp 11)⟩, ⟨some 13, none, .bin .lss false (.tmp 10) (.tmp 12)⟩]) (.cond (.tmp 13) (.skip) (.exit 0))) (.seq (.block 1 (.seq (.dops [⟨some 16, none,
 .mov (.tmp 0)⟩, ⟨some 17, none, .mov (.tmp 3)⟩, ⟨some 18, none, .indexAddr 1 (.tmp 16) (.tmp 17)⟩, ⟨some 19, none, .load none (.tmp 18)⟩, ⟨some 20, none, .mov (.tmp 0)⟩, ⟨some 21, none, .mov (.tmp 3)⟩, ⟨some 22, none,
 .bin .sub false (.tmp 21) (.const (.int .i64 1))⟩, ⟨some 23, none, .indexAddr 1 (.tmp 20) (.tmp 22)⟩, ⟨some 24, none, .load none (.tmp 23)⟩, ⟨some 25, none, .bin .eql false (.tmp 19) (.tmp 24)⟩]) (.cond (.tmp 25) (.seq
 (.ops [⟨some 26, none, .mov (.tmp 0)⟩, ⟨some 27, none, .mov (.tmp 3)⟩, ⟨some 28, none, .sliceSl 1 (.tmp 26) (some (.tmp 27)) none⟩, ⟨some 4, none, .mov (.tmp 28)⟩]) (.seq (.seq (.ops [⟨some 5, none, .mov (.const (.int
 .i64 1))⟩]) (.block 2 (.loop (.seq (.seq (.ops [⟨some 29, none, .mov (.tmp 5)⟩, ⟨some 30, none, .mov (.tmp 4)⟩, ⟨some 31, none, .lenSl (.tmp 30)⟩, ⟨some 32, none, .bin .lss false (.tmp 29) (.tmp 31)⟩]) (.cond (.tmp 32)
 (.skip) (.exit 2))) (.seq (.block 3 (.seq (.dops [⟨some 35, none, .mov (.tmp 4)⟩, ⟨some 36, none, .mov (.tmp 5)⟩, ⟨some 37, none, .indexAddr 1 (.tmp 35) (.tmp 36)⟩, ⟨some 38, none, .load none (.tmp 37)⟩, ⟨some 39, none,
 .mov (.tmp 4)⟩, ⟨some 40, none, .mov (.tmp 5)⟩, ⟨some 41, none, .bin .sub false (.tmp 40) (.const (.int .i64 1))⟩, ⟨some 42, none, .indexAddr 1 (.tmp 39) (.tmp 41)⟩, ⟨some 43, none, .load none (.tmp 42)⟩, ⟨some 44, none,
 .bin .neq false (.tmp 38) (.tmp 43)⟩]) (.cond (.tmp 44) (.seq (.ops [⟨some 45, none, .mov (.tmp 0)⟩, ⟨some 46, none, .mov (.tmp 3)⟩, ⟨some 47, none, .mov (.tmp 4)⟩, ⟨some 48, none, .mov (.tmp 5)⟩, ⟨some 49, none,
 .indexAddr 1 (.tmp 47) (.tmp 48)⟩, ⟨some 50, none, .load none (.tmp 49)⟩, ⟨some 51, none, .indexAddr 1 (.tmp 45) (.tmp 46)⟩, ⟨none, none, .store 1 (.tmp 51) (.tmp 50)⟩]) (.ops [⟨some 52, none, .mov (.tmp 3)⟩, ⟨some 53,
 none, .bin .add false (.tmp 52) (.const (.int .i64 1))⟩, ⟨some 3, none, .mov (.tmp 53)⟩])) (.skip)))) (.ops [⟨some 33, none, .mov (.tmp 5)⟩, ⟨some 34, none, .bin .add false (.tmp 33) (.const (.int .i64 1))⟩, ⟨some 5,
 none, .mov (.tmp 34)⟩])))))) (.seq (.ops [⟨some 54, none, .mov (.tmp 0)⟩, ⟨some 55, none, .mov (.tmp 3)⟩, ⟨some 56, none, .sliceSl 1 (.tmp 54) (some (.tmp 55)) none⟩, ⟨none, none, .clear 9 1 (.string ⟨#[]⟩) (.tmp 56)⟩])
 (.seq (.ops [⟨some 57, none, .mov (.tmp 0)⟩, ⟨some 58, none, .mov (.tmp 3)⟩, ⟨some 59, none, .sliceSl 1 (.tmp 57) none (some (.tmp 58))⟩, ⟨some 2, none, .mov (.tmp 59)⟩]) (.ret))))) (.skip)))) (.ops [⟨some 14, none, .mov
 (.tmp 3)⟩, ⟨some 15, none, .bin .add false (.tmp 14) (.const (.int .i64 1))⟩, ⟨some 3, none, .mov (.tmp 15)⟩])))))) (.seq (.ops [⟨some 60, none, .mov (.tmp 0)⟩, ⟨some 2, none, .mov (.tmp 60)⟩]) (.ret))))
def lf_slices_Compact_string : LF := { np := 1, N := 61, body := c_slices_Compact_string, res := [.tmp 2] }
theorem low_slices_Compact_string : LowF Tryz.prog Tryz.f63 lf_slices_Compact_string := LowF.mk' (by kernel_rfl) (by kernel_rfl) (by kernel_rfl) (by decide)

theorem slices_Compact_string_ok {zs : List (List UInt8)} (hz : zs.length ≤ 4000000) {l : Nat} {H : List Row} (hl : H[l]? = some ⟨.ty 9, 1, tCells zs⟩) {K : AV → List Row → Prop}
    (hK : ∀ a ws, TxtS (H.set l ⟨.ty 9, 1, tCells ws⟩) a (compactG zs) l ws → K a (H.set l ⟨.ty 9, 1, tCells ws⟩)) : callSem Tryz.prog 63 [.own l zs.length] H K := by
  refine call_of_fnWp mixed Tryz.func63 low_slices_Compact_string (fnWp_of rfl ?_)
  have hself : H.set l ⟨.ty 9, 1, tCells zs⟩ = H := by have := set_self hl; simpa using this
  have hget : ∀ r : Row, (H.set l r)[l]? = some r := fun r => get_set_eqI hl
  have hown : ∀ zs', zs' = compactG zs → zs' = zs → K (.own l zs.length) H := by
    intro zs' e1 e2
    have := hK (.own l zs.length) zs ⟨hself.symm ▸ hl, by rw [← e1, e2, List.take_length], .inr ⟨by rw [← e1, e2], by rw [← e1, e2]⟩⟩
    rwa [hself] at this
  by_cases h2 : (zs.length : Int) < 2
  · simp (disch := omega) only [lf_slices_Compact_string, c_slices_Compact_string, hl, h2, tCells_len, go_sem, reduceCtorEq, ↓reduceIte]
    refine hown (compactG zs) rfl ?_
    match zs, h2 with
    | [], _ => rfl
    | [x], _ => rfl
    | x :: y :: r, h2 => simp at h2; omega
  simp (disch := omega) only [lf_slices_Compact_string, c_slices_Compact_string, hl, h2, tCells_len, go_sem, reduceCtorEq, ↓reduceIte]
  refine Ex_loop (fun m t h => ∃ k : Nat, t 0 = .own l zs.length ∧ t 3 = .val (.int .i64 k) ∧ h = H ∧ m = zs.length - k ∧ 1 ≤ k ∧ k ≤ zs.length ∧ compactG zs = zs.take (k - 1) ++ compactG (zs.drop (k - 1))) (zs.length - 1) ⟨1, rfl, rfl, rfl, rfl, Nat.le_refl _, by omega, by simp⟩ ?_
  rintro J hJ m t h ⟨k, t0, t3, rfl, rfl, hk1, hk, hS⟩
  by_cases hlt : k < zs.length
  · have hg := tCells_get zs k hlt
    have hg1 := tCells_get zs (k - 1) (by omega)
    have hkp : ((k : Int) - 1) = ((k - 1 : Nat) : Int) := by omega
    have hlt1 : k - 1 < zs.length := by omega
    rw [compactG_at zs k hk1 hlt] at hS
    by_cases he : zs[k] = zs[k - 1]
    · rw [if_pos he.symm] at hS
      have he' : (zs[k] = zs[k - 1]) = True := eq_true he
      simp (disch := omega) only [t0, t3, hl, hlt, hlt1, hg, hg1, hkp, he', tCells_len, go_sem, Nat.reduceEqDiff, reduceCtorEq, ↓reduceIte]
      have hes : zs.take k = zs.take (k - 1) ++ [zs[k - 1]] := by rw [List.take_append_getElem hlt1]; congr 1; omega
      have hS2 : compactG zs = zs.take k ++ (compactG (zs.drop k)).drop 1 := by
        rw [hS, hes]
        obtain ⟨r', e⟩ := compactG_ne zs[k] (zs.drop (k + 1))
        rw [← List.drop_eq_getElem_cons hlt] at e
        rw [e, he, List.append_assoc]; rfl
      refine Ex_loop (fun m t h' => ∃ (c k2 : Nat) (ws : List (List UInt8)), t 0 = .own l zs.length ∧ t 3 = .val (.int .i64 c) ∧ t 4 = .sub l zs.length k zs.length ∧ t 5 = .val (.int .i64 k2) ∧ h' = h.set l ⟨.ty 9, 1, tCells ws⟩ ∧ m = zs.length - (k + k2) ∧ 1 ≤ k2 ∧ k + k2 ≤ zs.length ∧ c < k + k2 ∧ ws.length = zs.length ∧ (∀ i, k + k2 - 1 ≤ i → ws[i]? = zs[i]?) ∧ compactG zs = ws.take c ++ (compactG (zs.drop (k + k2 - 1))).drop 1) (zs.length - (k + 1))
        ⟨k, 1, zs, by simp [upd, t0], by simp [upd, t3], by simp [upd], by simp [upd], hself.symm, rfl, Nat.le_refl _, by omega, by omega, rfl, fun _ _ => rfl, by rw [show k + 1 - 1 = k by omega]; exact hS2⟩ ?_
      clear hS hS2 hg hg1 t0 t3
      rintro J2 hJ2 m t h' ⟨c, k2, ws, t0, t3, t4, t5, rfl, rfl, hk2, hkk, hc, hwl, hws, hS⟩
      by_cases hlt2 : k + k2 < zs.length
      · have hcond : ((k : Int) + (k2 : Int) < (zs.length : Int)) = True := eq_true (by omega)
        have hcond1 : ((k : Int) + ((k2 - 1 : Nat) : Int) < (zs.length : Int)) = True := eq_true (by omega)
        have hl2 : ((k2 : Int) < ((zs.length - k : Nat) : Int)) = True := eq_true (by omega)
        have hp2 : ((k2 : Int) - 1) = ((k2 - 1 : Nat) : Int) := by omega
        have g1 : (tCells ws)[k + k2]? = some [.val (.string (txt zs[k + k2]))] := by
          have : ws[k + k2]? = some zs[k + k2] := by rw [hws _ (by omega)]; exact List.getElem?_eq_getElem hlt2
          simp [tCells, this]
        have hlt3 : k + (k2 - 1) < zs.length := by omega
        have g2 : (tCells ws)[k + (k2 - 1)]? = some [.val (.string (txt zs[k + (k2 - 1)]))] := by
          have : ws[k + (k2 - 1)]? = some zs[k + (k2 - 1)] := by rw [hws _ (by omega)]; exact List.getElem?_eq_getElem hlt3
          simp [tCells, this]
        have hcw : c < ws.length := by omega
        have g3 := tCells_get ws c hcw
        have hcz : ((c : Int) < (zs.length : Int)) = True := eq_true (by omega)
        have hidx : k + k2 - 1 = k + (k2 - 1) := by omega
        rw [hidx] at hS
        have hat := compactG_at zs (k + k2) (by omega) hlt2
        simp only [hidx] at hat
        rw [hat] at hS
        by_cases hne : zs[k + k2] = zs[k + (k2 - 1)]
        · have hne' : (zs[k + k2] = zs[k + (k2 - 1)]) = True := eq_true hne
          rw [if_pos hne.symm] at hS
          simp (disch := omega) only [t4, t5, hget, hwl, hcond, hcond1, hl2, hp2, g1, g2, hne', hk, tCells_len, go_sem, Nat.reduceEqDiff, ↓reduceIte]
          exact ⟨zs.length - (k + (k2 + 1)), by omega, hJ2 _ _ _ ⟨c, k2 + 1, ws, by simp [upd, t0], by simp [upd, t3], by simp [upd, t4], by simp [upd], rfl, rfl, by omega, by omega, by omega, hwl, fun i hi => hws i (by omega), by rw [show k + (k2 + 1) - 1 = k + k2 by omega]; exact hS⟩⟩
        · have hne' : (zs[k + k2] = zs[k + (k2 - 1)]) = False := eq_false hne
          rw [if_neg (fun q => hne q.symm)] at hS
          simp (disch := omega) only [t0, t3, t4, t5, hget, hwl, hcond, hcond1, hl2, hp2, g1, g2, g3, hne', hcz, hk, List.set_set, tCells_set, tCells_len, go_sem, Nat.reduceEqDiff, reduceCtorEq, ↓reduceIte]
          refine ⟨zs.length - (k + (k2 + 1)), by omega, hJ2 _ _ _ ⟨c + 1, k2 + 1, ws.set c zs[k + k2], by simp [upd, t0], by simp [upd], by simp [upd, t4], by simp [upd], rfl, rfl, by omega, by omega, by omega, by simp [hwl], fun i hi => ?_, ?_⟩⟩
          · rw [List.getElem?_set_ne (by omega)]; exact hws i (by omega)
          · rw [show k + (k2 + 1) - 1 = k + k2 by omega, hS]
            obtain ⟨r', e⟩ := compactG_ne zs[k + k2] (zs.drop (k + k2 + 1))
            rw [← List.drop_eq_getElem_cons hlt2] at e
            rw [e]
            have : (ws.set c zs[k + k2]).take (c + 1) = ws.take c ++ [zs[k + k2]] := by
              rw [← List.take_append_getElem (by simpa using hcw)]
              simp [List.take_set_of_le]
            rw [this]; simp
      · have hend : k + k2 - 1 = zs.length - 1 := by omega
        have hl2 : ((k2 : Int) < ((zs.length - k : Nat) : Int)) = False := eq_false (by omega)
        have hfin : compactG zs = ws.take c := by rw [hS, hend, compactG_last zs (by omega)]; simp
        simp (disch := omega) only [t0, t3, t4, t5, hget, hwl, hl2, hk, List.set_set, tCells_len, go_sem, Nat.reduceEqDiff, reduceCtorEq, ↓reduceIte]
        refine ⟨by omega, ?_⟩
        have hrow : ∀ A : List (List AV), A = (tCells ws).take c ++ (List.replicate (zs.length - c) [AV.val (Value.string (txt []))] ++ (tCells ws).drop zs.length) → A = tCells (ws.take c ++ List.replicate (zs.length - c) []) := by
          intro A e
          rw [e, List.drop_eq_nil_of_le (by rw [tCells_len]; omega), List.append_nil, tCells_take, ← tCells_app]
          congr 1
          simp [tCells]
        rw [if_pos ⟨by simp [tCells_len, hwl]; omega, by omega⟩]
        have hr := hrow _ rfl
        have hlen2 : (ws.take c ++ List.replicate (zs.length - c) ([] : List UInt8)).length = zs.length := by simp; omega
        have hcut : (ws.take c ++ List.replicate (zs.length - c) ([] : List UInt8)).take (compactG zs).length = compactG zs := by
          rw [hfin, List.length_take, Nat.min_eq_left (by omega), List.take_append_of_le_length (by simp; omega), List.take_take]; simp
        have hcl : (compactG zs).length = c := by rw [hfin, List.length_take]; omega
        have := hK (.sub l zs.length 0 c) (ws.take c ++ List.replicate (zs.length - c) ([] : List UInt8)) ⟨hget _, hcut, .inl (by rw [hcl, hlen2])⟩
        rw [hr]
        exact this
    · rw [if_neg (fun q => he q.symm)] at hS
      have he' : (zs[k] = zs[k - 1]) = False := eq_false he
      simp (disch := omega) only [t0, t3, hl, hlt, hlt1, hg, hg1, hkp, he', tCells_len, go_sem, Nat.reduceEqDiff, reduceCtorEq, ↓reduceIte]
      refine ⟨zs.length - (k + 1), by omega, hJ _ _ _ ⟨k + 1, by simp [upd, t0], by simp [upd], rfl, rfl, by omega, by omega, ?_⟩⟩
      rw [hS, show k + 1 - 1 = k by omega]
      have e : zs.take k = zs.take (k - 1) ++ [zs[k - 1]] := by rw [List.take_append_getElem hlt1]; congr 1; omega
      rw [e, List.append_assoc]; rfl
  · simp (disch := omega) only [t0, t3, hl, hlt, tCells_len, go_sem, Nat.reduceEqDiff, reduceCtorEq, ↓reduceIte]
    refine hown (compactG zs) rfl ?_
    have : k - 1 = zs.length - 1 := by omega
    rw [hS, this, compactG_last zs (by omega)]
    rw [List.take_append_getElem, show zs.length - 1 + 1 = zs.length by omega, List.take_length]
/-- The bytes of texts. -/
def rawT (xs : List ByteArray) : List (List UInt8) := xs.map fun s => s.data.toList
theorem rawT_cells (xs : List ByteArray) : tCells (rawT xs) = xs.map cStr := by
  unfold tCells rawT
  rw [List.map_map]
  refine List.map_congr_left fun s _ => ?_
  show [AV.val (.string (txt s.data.toList))] = [AV.val (.string s)]
  rw [← txt_of]
theorem rawT_nodup (xs : List ByteArray) : (rawT xs).Nodup ↔ xs.Nodup := by
  unfold rawT
  rw [List.Nodup, List.pairwise_map]
  constructor
  · intro h; exact h.imp fun q e => q (by rw [e])
  · intro h; exact h.imp fun {a b} q e => q (by rw [txt_of a, txt_of b, e])
def distinctB (xs : List ByteArray) : Bool := decide xs.Nodup
def c_slices_Values_string : LC :=
 .seq (.ops [⟨some 1, none, .box 25 (.tmp 0)⟩, ⟨some 2, none, .mov (.const (.nilFunc))⟩]) (.seq (.ops [⟨some 3, none, .mkFunc 77 [] [.tmp 1]⟩, ⟨some 2, none, .mov (.tmp 3)⟩]) (.ret))
def lf_slices_Values_string : LF := { np := 1, N := 4, body := c_slices_Values_string, res := [.tmp 2] }
theorem low_slices_Values_string : LowF Tryz.prog Tryz.f62 lf_slices_Values_string := LowF.mk' (by kernel_rfl) (by kernel_rfl) (by kernel_rfl) (by decide)

def c_slices_Sorted_string : LC :=
 .seq (.ops [⟨some 2, none, .mov (.const (.slice none 0 0))⟩]) (.seq (.ops [⟨some 4, none, .mov (.tmp 0)⟩, ⟨some 5, none, .call 75 [.tmp 4]⟩, ⟨some 3, none, .mov (.tmp 5)⟩]) (.seq (.ops [⟨some 6, none, .mov (.tmp 3)⟩,
 ⟨some 7, none, .call 76 [.tmp 6]⟩]) (.seq (.ops [⟨some 8, none, .mov (.tmp 3)⟩, ⟨some 2, none, .mov (.tmp 8)⟩]) (.ret))))
def lf_slices_Sorted_string : LF := { np := 1, N := 9, body := c_slices_Sorted_string, res := [.tmp 2] }
theorem low_slices_Sorted_string : LowF Tryz.prog Tryz.f61 lf_slices_Sorted_string := LowF.mk' (by kernel_rfl) (by kernel_rfl) (by kernel_rfl) (by decide)

def c_impl_distinct : LC :=
 .seq (.ops [⟨some 2, none, .mov (.const (.bool false))⟩]) (.seq (.ops [⟨some 4, none, .mov (.tmp 0)⟩, ⟨some 5, none, .call 62 [.tmp 4]⟩, ⟨some 6, none, .call 61 [.tmp 5]⟩, ⟨some 3, none, .mov (.tmp 6)⟩]) (.seq (.ops
 [⟨some 7, none, .mov (.tmp 3)⟩, ⟨some 8, none, .call 63 [.tmp 7]⟩, ⟨some 9, none, .lenSl (.tmp 8)⟩, ⟨some 10, none, .mov (.tmp 0)⟩, ⟨some 11, none, .lenSl (.tmp 10)⟩, ⟨some 12, none, .bin .eql false (.tmp 9) (.tmp 11)⟩,
 ⟨some 2, none, .mov (.tmp 12)⟩]) (.ret)))
def lf_impl_distinct : LF := { np := 1, N := 13, body := c_impl_distinct, res := [.tmp 2] }
theorem low_impl_distinct : LowF Tryz.prog Tryz.f44 lf_impl_distinct := LowF.mk' (by kernel_rfl) (by kernel_rfl) (by kernel_rfl) (by decide)

theorem slices_Values_string_sem (xs : List ByteArray) (H : List Row) (K : AV → List Row → Prop) (hk : K (.fn 77 [] [.ptr H.length 1 0 0]) (H ++ [⟨.ty 25, 1, [[.list 0 1 (xs.map cStr)]]⟩])) : callSem Tryz.prog 62 [.list 0 1 (xs.map cStr)] H K := by
  refine call_of_fnWp mixed Tryz.func62 low_slices_Values_string (fnWp_of rfl ?_)
  simp (disch := (first | omega | (simp only [List.length_set, List.length_append, List.length_cons, List.length_nil]; done) | (simp only [List.length_set, List.length_append, List.length_cons, List.length_nil]; omega))) only [go_sem, Nat.reduceEqDiff, ↓reduceIte, lf_slices_Values_string, c_slices_Values_string]
  exact hk
theorem slices_Sorted_string_sem {xs : List ByteArray} (hx : xs.length ≤ 1048576) {l : Nat} {EB : TypeId} {H : List Row} (hl : H[l]? = some ⟨.ty EB, 1, [[.list 0 1 (xs.map cStr)]]⟩) (K : AV → List Row → Prop) (hk : K (.own H.length xs.length) (H ++ [⟨.ty 9, 1, tCells (sortT (rawT xs))⟩])) : callSem Tryz.prog 61 [.fn 77 [] [.ptr l 1 0 0]] H K := by
  refine call_of_fnWp mixed Tryz.func61 low_slices_Sorted_string (fnWp_of rfl ?_)
  have hrl : (rawT xs).length = xs.length := List.length_map ..
  simp (disch := (first | omega | (simp only [List.length_set, List.length_append, List.length_cons, List.length_nil]; done) | (simp only [List.length_set, List.length_append, List.length_cons, List.length_nil]; omega))) only [go_sem, reduceCtorEq, ↓reduceIte, lf_slices_Sorted_string, c_slices_Sorted_string]
  refine collect_own (E := 9) (EB := EB) (zs := rawT xs) (fun Bs sv zs w h1 h2 h3 h4 => Tryz.collect Bs sv zs h1 w h2 h3 h4) (by rw [rawT_cells]; exact hl) (by omega) ?_
  simp (disch := (first | omega | (simp only [List.length_set, List.length_append, List.length_cons, List.length_nil]; done) | (simp only [List.length_set, List.length_append, List.length_cons, List.length_nil]; omega))) only [go_sem, ↓reduceIte]
  refine sort_ownT (E := 9) (zs := rawT xs) (fun blk off cap zs w h1 h2 h3 => AnyM.slices_Sort_string Tryz.sortS blk off cap zs w h1 h2 h3) (fun p cap w => AnyM.slices_Sort_string_none Tryz.sortS p cap w) (look_new rfl) (by omega) ?_
  simp (disch := (first | omega | (simp only [List.length_set, List.length_append, List.length_cons, List.length_nil]; done) | (simp only [List.length_set, List.length_append, List.length_cons, List.length_nil]; omega))) only [go_sem, Nat.reduceEqDiff, ↓reduceIte]
  rw [hrl]
  have e : (H ++ [(⟨.ty 9, 1, tCells (rawT xs)⟩ : Row)]).set H.length ⟨.ty 9, 1, tCells (sortT (rawT xs))⟩ = H ++ [⟨.ty 9, 1, tCells (sortT (rawT xs))⟩] := by
    rw [List.set_append_right _ _ (Nat.le_refl _)]; simp
  first | exact hk | (rw [e]; exact hk)
theorem impl_distinct_ok (xs : List ByteArray) (hx : xs.length ≤ 1048576) (h : List Row) : PureCall Tryz.prog 44 [.list 0 1 (xs.map cStr)] h (.val (.bool (distinctB xs))) := by
  refine pure_fn mixed Tryz.func44 low_impl_distinct rfl rfl ?_ h
  have hrl : (rawT xs).length = xs.length := List.length_map ..
  have hsl : (sortT (rawT xs)).length = xs.length := by rw [sortT_len, hrl]
  simp (disch := omega) only [lf_impl_distinct, c_impl_distinct, go_sem, reduceCtorEq, ↓reduceIte]
  refine slices_Values_string_sem xs _ _ ?_
  simp (disch := omega) only [go_sem, ↓reduceIte]
  refine slices_Sorted_string_sem (l := 0) (EB := 25) hx rfl _ ?_
  simp (disch := omega) only [go_sem, ↓reduceIte]
  rw [← hsl]
  refine slices_Compact_string_ok (l := 1) (by omega) rfl (fun a ws hI => ?_)
  have hd := dist_sort (rawT xs)
  have hfin : distinctB xs = decide ((compactG (sortT (rawT xs))).length = xs.length) := by
    rw [← hrl, hd, distinctB, decide_eq_decide, rawT_nodup]
  obtain ⟨i1, i2, rfl | ⟨rfl, rfl⟩⟩ := hI
  · simp (disch := omega) only [tCells_len, Nat.sub_zero, go_sem, Nat.reduceEqDiff, reduceCtorEq, ↓reduceIte]
    refine resolve_bool ?_
    rw [hfin, decide_eq_decide]
    omega
  · simp (disch := omega) only [tCells_len, go_sem, Nat.reduceEqDiff, reduceCtorEq, ↓reduceIte]
    refine resolve_bool ?_
    rw [hfin, decide_eq_decide]
    omega
end Go.Proofs.YtkddmakjmjmokaaGreatDoor
