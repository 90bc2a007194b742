/-
  Contracts of functions of this program, over abstract values. Conditions: as each theorem says.
-/
import Derived.Test.YtclhpcfpchpbnaaGreatDoorFnKG
namespace Go.Proofs.YtclhpcfpchpbnaaGreatDoor
open Go.AW
set_option linter.unusedVariables false
set_option linter.unusedSimpArgs false
set_option maxRecDepth 4000

theorem getS_stop {s : ByteArray} (h : runG takeS 5 (bs s) [] = none) : getR s = ([], false) := by
  rw [getR, getL_same, getL, h]
theorem getS_no {s : ByteArray} {out : List (List UInt8)} {left : List UInt8} (h : runG takeS 5 (bs s) [] = some (out, left)) (q : ¬ (left = [] ∧ subsL out = true ∧ putL out = bs s)) : getR s = ([], false) := by
  rw [getR, getL_same, getL, h]; simp only; rw [if_neg q]
theorem getS_yes {s : ByteArray} {out : List (List UInt8)} (h : runG takeS 5 (bs s) [] = some (out, [])) (h2 : subsL out = true) (h3 : putL out = bs s) : getR s = (out.map txt, true) := by
  rw [getR, getL_same]; simp [getL, h, h2, h3]
def c_spec_GetSubs : LC :=
 .seq (.ops [⟨some 2, none, .mov (.const (.slice none 0 0))⟩, ⟨some 3, none, .mov (.const (.bool false))⟩]) (.seq (.ops [⟨some 9, none, .buildSlice 9 1 (.string ⟨#[]⟩) 0 []⟩, ⟨some 4, none, .mov (.tmp 9)⟩]) (.seq (.ops
 [⟨some 10, none, .mov (.tmp 0)⟩, ⟨some 5, none, .mov (.tmp 10)⟩]) (.seq (.block 0 (.loop (.seq (.seq (.ops [⟨some 11, none, .mov (.tmp 5)⟩, ⟨some 12, none, .bin .neq false (.tmp 11) (.const (.string ⟨#[]⟩))⟩, ⟨some 13,
 none, .mov (.tmp 12)⟩, ⟨some 14, (some (13, true)), .mov (.tmp 4)⟩, ⟨some 15, (some (13, true)), .lenSl (.tmp 14)⟩, ⟨some 16, (some (13, true)), .bin .leq false (.tmp 15) (.const (.int .i64 4))⟩, ⟨some 17, none, .pick
 (.tmp 13) (.tmp 16) (.const (.bool false))⟩]) (.cond (.tmp 17) (.skip) (.exit 0))) (.block 1 (.seq (.ops [⟨some 19, none, .mov (.tmp 5)⟩, ⟨some 20, none, .call 184 [.tmp 19]⟩, ⟨some 18, none, .mov (.tmp 20)⟩, ⟨some 21,
 none, .extract (.tmp 18) 0⟩, ⟨some 22, none, .extract (.tmp 18) 1⟩, ⟨some 23, none, .extract (.tmp 18) 2⟩, ⟨some 6, none, .mov (.tmp 21)⟩, ⟨some 7, none, .mov (.tmp 22)⟩, ⟨some 8, none, .mov (.tmp 23)⟩]) (.seq (.seq (.ops
 [⟨some 24, none, .mov (.tmp 8)⟩, ⟨some 25, none, .un .not (.tmp 24)⟩]) (.cond (.tmp 25) (.seq (.ops [⟨some 26, none, .buildSlice 9 1 (.string ⟨#[]⟩) 0 []⟩, ⟨some 2, none, .mov (.tmp 26)⟩, ⟨some 3, none, .mov (.const
 (.bool false))⟩]) (.ret)) (.skip))) (.seq (.ops [⟨some 27, none, .mov (.tmp 4)⟩, ⟨some 28, none, .mov (.tmp 6)⟩, ⟨some 29, none, .buildSlice 9 1 (.string ⟨#[]⟩) 1 [(0, .tmp 28)]⟩, ⟨some 30, none, .append 9 1 16 (.tmp 27)
 (.tmp 29)⟩, ⟨some 4, none, .mov (.tmp 30)⟩]) (.ops [⟨some 31, none, .mov (.tmp 7)⟩, ⟨some 5, none, .mov (.tmp 31)⟩])))))))) (.seq (.seq (.ops [⟨some 32, none, .mov (.tmp 5)⟩, ⟨some 33, none, .bin .neq false (.tmp 32)
 (.const (.string ⟨#[]⟩))⟩, ⟨some 34, none, .mov (.tmp 33)⟩, ⟨some 35, (some (34, false)), .mov (.tmp 4)⟩, ⟨some 36, (some (34, false)), .call 78 [.tmp 35]⟩, ⟨some 37, (some (34, false)), .un .not (.tmp 36)⟩, ⟨some 38,
 none, .pick (.tmp 34) (.const (.bool true)) (.tmp 37)⟩, ⟨some 39, none, .mov (.tmp 38)⟩, ⟨some 40, (some (39, false)), .mov (.tmp 4)⟩, ⟨some 41, (some (39, false)), .call 185 [.tmp 40]⟩, ⟨some 42, (some (39, false)), .mov
 (.tmp 0)⟩, ⟨some 43, (some (39, false)), .bin .neq false (.tmp 41) (.tmp 42)⟩, ⟨some 44, none, .pick (.tmp 39) (.const (.bool true)) (.tmp 43)⟩]) (.cond (.tmp 44) (.seq (.ops [⟨some 45, none, .buildSlice 9 1 (.string
 ⟨#[]⟩) 0 []⟩, ⟨some 2, none, .mov (.tmp 45)⟩, ⟨some 3, none, .mov (.const (.bool false))⟩]) (.ret)) (.skip))) (.seq (.ops [⟨some 46, none, .mov (.tmp 4)⟩, ⟨some 2, none, .mov (.tmp 46)⟩, ⟨some 3, none, .mov (.const (.bool
 true))⟩]) (.ret))))))
def lf_spec_GetSubs : LF := { np := 1, N := 47, body := c_spec_GetSubs, res := [.tmp 2, .tmp 3] }
theorem low_spec_GetSubs : LowF Tryz.prog Tryz.f147 lf_spec_GetSubs := LowF.mk' (by kernel_rfl) (by kernel_rfl) (by kernel_rfl) (by decide)

theorem spec_GetSubs_fresh (s : ByteArray) (hs : s.size ≤ 1048576) : FreshCall Tryz.prog 147 [.val (.string s)] (bothR (getR s)) (fun a => ∃ b q, a = .tup [b, .val (.bool q)]) := by
  refine fresh_fn mixed Tryz.func147 low_spec_GetSubs rfl (fun h0 => ?_)
  have hbl := bs_len s
  simp (disch := omega) only [lf_spec_GetSubs, c_spec_GetSubs, go_sem, reduceCtorEq, ↓reduceIte]
  refine Ex_loop (fun n t h => ∃ (out : List (List UInt8)) (left : List UInt8) (rest : List Row), t 0 = .val (.string s) ∧ t 4 = .own h0.length out.length ∧ t 5 = .val (.string (txt left)) ∧ h = h0 ++ ⟨9, 1, txtCells out⟩ :: rest ∧ n = 5 - out.length ∧ out.length ≤ 5 ∧ left.length ≤ s.size ∧ runG takeS 5 (bs s) [] = runG takeS (5 - out.length) left out) 5 ?_ ?_
  · exact ⟨[], bs s, [], rfl, rfl, by rw [txt_bs]; rfl, rfl, rfl, by simp, Nat.le_of_eq (bs_len s), rfl⟩
  rintro J hJ n t h ⟨out, left, rest, t0, t4, t5, rfl, rfl, ho, hle, hS⟩
  have fl : (txtCells out).length = out.length := by simp
  have hA := res_txts h0 out rest
  by_cases q0 : left = []
  · subst q0
    have hR : runG takeS 5 (bs s) [] = some (out, []) := by
      rw [hS]; cases 5 - out.length with
      | zero => rw [runG]
      | succ f => rw [runG, if_pos rfl]
    have q0' : (txt ([] : List UInt8) = txt []) = True := by simp
    simp (disch := omega) only [t4, t5, Ex_cond, go_sem, Nat.reduceEqDiff, ↓reduceIte]
    refine PureCall.call (AW.frozen (spec_l02Subs_ok (out.map txt) (by simp; omega)) hA) ?_
    by_cases s1 : subsL out = true
    case neg =>
      have s1' : subsOk (out.map txt) = false := by rw [subsOk_txts]; simpa using s1
      simp (disch := omega) only [t4, s1', Ex_cond, go_sem, Nat.reduceEqDiff, ↓reduceIte]
      rw [getS_no hR (fun q => s1 q.2.1)]
      exact ⟨_, rfl, fresh_two (fresh_strs (out := []) (E := 9) (by first | (rw [getAk]; rfl) | (rw [getAk]; simp)) (by omega)) (by omega) _, _, _, rfl⟩
    have s1' : subsOk (out.map txt) = true := by rw [subsOk_txts]; exact s1
    simp (disch := omega) only [t4, s1', go_sem, Nat.reduceEqDiff, ↓reduceIte]
    refine PureCall.call (AW.frozen (spec_l02Put_ok (out.map txt) s1') hA) ?_
    rw [bss_txts]
    by_cases s2 : putL out = bs s
    case neg =>
      have s2' : (txt (putL out) = s) = False := by rw [eq_iff_iff, iff_false]; intro e; exact s2 (by rw [← e]; exact (txt_data _).symm)
      simp (disch := omega) only [t0, t4, s2', Ex_cond, go_sem, Nat.reduceEqDiff, reduceCtorEq, ↓reduceIte]
      rw [getS_no hR (fun q => s2 q.2.2)]
      exact ⟨_, rfl, fresh_two (fresh_strs (out := []) (E := 9) (by first | (rw [getAk]; rfl) | (rw [getAk]; simp)) (by omega)) (by omega) _, _, _, rfl⟩
    have s2' : (txt (putL out) = s) = True := by rw [s2, txt_bs]; simp
    simp (disch := omega) only [t0, t4, s2', Ex_cond, go_sem, Nat.reduceEqDiff, reduceCtorEq, ↓reduceIte]
    rw [getS_yes hR s1 s2]
    have hz := fresh_two (fresh_strs (base := h0.length) (l := h0.length) (E := 9) (out := out.map txt) (H := h0 ++ ⟨9, 1, txtCells out⟩ :: rest) (by rw [getA0]; rfl) (Nat.le_refl _)) (by omega) (.bool true)
    rw [List.length_map] at hz
    exact ⟨_, rfl, hz, _, _, rfl⟩
  · have hpos : 0 < left.length := by cases left with
      | nil => exact absurd rfl q0
      | cons b l => simp
    have q0' : (txt left = txt []) = False := by rw [txt_nil_iff]; simp [q0]
    by_cases q4 : out.length ≤ 4
    · have q4' : (out.length : Int) ≤ 4 := by omega
      have e5 : 5 - out.length = (4 - out.length) + 1 := by omega
      rw [e5, runG_step takeS (4 - out.length) left out q0] at hS
      simp (disch := omega) only [t4, t5, q0', q4', fl, Ex_cond, go_sem, Nat.reduceEqDiff, ↓reduceIte]
      have hc := fun h => spec_l02Take_ok left hpos (by omega) h
      cases hn : takeS left with
      | none =>
        rw [hn, threeR_none] at hc
        rw [hn] at hS
        refine PureCall.call (hc _) ?_
        simp (disch := omega) only [t4, fl, Ex_cond, go_sem, Nat.reduceEqDiff, Nat.reduceLeDiff, ↓reduceIte]
        rw [getS_stop (by rw [hS])]
        exact ⟨_, rfl, fresh_two (fresh_strs (out := []) (E := 9) (by first | (rw [getAk]; rfl) | (rw [getAk]; simp)) (by omega)) (by omega) _, _, _, rfl⟩
      | some p =>
        obtain ⟨x, r⟩ := p
        rw [hn, threeR_some] at hc
        have hlen := takeS_len left x r hn
        rw [hn] at hS
        refine PureCall.call (hc _) ?_
        simp (disch := omega) only [t4, fl, Ex_cond, go_sem, Nat.reduceEqDiff, Nat.reduceLeDiff, ↓reduceIte]
        refine ⟨by omega, by omega, ?_⟩
        try simp (disch := omega) only [t0, t4, t5, q0', q4', fl, Ex_cond, go_sem, Nat.reduceEqDiff, Nat.reduceAdd, Nat.reduceLeDiff, reduceCtorEq, Int.reduceLT, Int.reduceLE, Int.reduceNeg, Int.reduceSub, Int.reduceAdd, Int.reduceToNat, ↓reduceIte]
        exact ⟨5 - (out.length + 1), by omega, hJ _ _ _ ⟨out ++ [x], r, rest ++ [⟨9, 1, [[.val (.string (txt x))]]⟩], by simp [upd, t0], by simp [upd], by simp [upd], by simp [cStr], by simp, by simp; omega, by omega, by simpa [Nat.sub_sub] using hS⟩⟩
    · have q4' : ¬ (out.length : Int) ≤ 4 := by omega
      have e0 : 5 - out.length = 0 := by omega
      have hR : runG takeS 5 (bs s) [] = some (out, left) := by rw [hS, e0, runG]
      simp (disch := omega) only [t4, t5, q0', q4', fl, Ex_cond, go_sem, Nat.reduceEqDiff, ↓reduceIte]
      rw [getS_no hR (fun q => q0 q.1)]
      exact ⟨_, rfl, fresh_two (fresh_strs (out := []) (E := 9) (by first | (rw [getAk]; rfl) | (rw [getAk]; simp)) (by omega)) (by omega) _, _, _, rfl⟩
theorem spec_GetSubs_ok (s : ByteArray) (hs : s.size ≤ 1048576) (h : List Row) : PureCall Tryz.prog 147 [.val (.string s)] h (bothR (getR s)) := (spec_GetSubs_fresh s hs).pure rfl h
end Go.Proofs.YtclhpcfpchpbnaaGreatDoor
