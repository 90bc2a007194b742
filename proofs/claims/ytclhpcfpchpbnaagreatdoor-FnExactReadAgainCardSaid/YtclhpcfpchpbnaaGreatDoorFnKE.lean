/-
  Contracts of functions of this program, over abstract values. Conditions: as each theorem says.
-/
import Derived.Test.YtclhpcfpchpbnaaGreatDoorFnKD
namespace Go.Proofs.YtclhpcfpchpbnaaGreatDoor
open Go.AW
set_option linter.unusedVariables false
set_option linter.unusedSimpArgs false
set_option maxRecDepth 4000

abbrev txtCells (out : List (List UInt8)) : List (List AV) := (out.map txt).map cStr
theorem bss_txts (out : List (List UInt8)) : bss (out.map txt) = out := by
  rw [bss, List.map_map]
  conv => rhs; rw [← List.map_id out]
  exact List.map_congr_left fun x _ => txt_data x
theorem subsOk_txts (out : List (List UInt8)) : subsOk (out.map txt) = subsL out := by
  rw [Bool.eq_iff_iff]
  simp only [subsOk, subsL, subOk, subL, List.length_map, List.all_map, Bool.and_eq_true, decide_eq_true_eq, List.all_eq_true, Function.comp, txt_size]
  constructor
  · rintro ⟨h1, h2⟩
    exact ⟨by omega, fun x hx => by have := h2 x hx; omega⟩
  · rintro ⟨h1, h2⟩
    exact ⟨by omega, fun x hx => by have := h2 x hx; omega⟩
theorem takeI_at (l : List UInt8) (h : 0 < l.length) : takeI l = if l[0] = 1 then numI (l.drop 1) else if l[0] = 2 then unesc (l.drop 1) [] else none := by
  cases l with
  | nil => simp at h
  | cons b l => rfl
theorem threeR_none : threeR none = .tup [.val (.string (txt [])), .val (.string (txt [])), .val (.bool false)] := rfl
theorem threeR_some (t r : List UInt8) : threeR (some (t, r)) = .tup [.val (.string (txt t)), .val (.string (txt r)), .val (.bool true)] := rfl
/-- What GetSubs gives. -/
def getR (s : ByteArray) : List ByteArray × Bool :=
  match getL takeI (bs s) with
  | some xs => (xs.map txt, true)
  | none => ([], false)
abbrev bothR (p : List ByteArray × Bool) : AV := .tup [.list 0 1 (p.1.map cStr), .val (.bool p.2)]
theorem getR_stop {s : ByteArray} (h : runG takeI 5 (bs s) [] = none) : getR s = ([], false) := by
  rw [getR, getL, h]
theorem getR_no {s : ByteArray} {out : List (List UInt8)} {left : List UInt8} (h : runG takeI 5 (bs s) [] = some (out, left)) (q : ¬ (left = [] ∧ subsL out = true ∧ putL out = bs s)) : getR s = ([], false) := by
  rw [getR, getL, h]; simp only; rw [if_neg q]
theorem getR_yes {s : ByteArray} {out : List (List UInt8)} (h : runG takeI 5 (bs s) [] = some (out, [])) (h2 : subsL out = true) (h3 : putL out = bs s) : getR s = (out.map txt, true) := by
  simp [getR, getL, h, h2, h3]
theorem subsL_len {out : List (List UInt8)} (h : subsL out = true) : out.length ≤ 4 := by
  simp only [subsL, Bool.and_eq_true, decide_eq_true_eq] at h; exact h.1
theorem txtCells_flat (out : List (List UInt8)) : ∀ e ∈ txtCells out, e.all AV.flat = true := by
  intro e he
  obtain ⟨x, _, q⟩ := List.mem_map.1 he; subst q; rfl
theorem res_txts (h0 : List Row) (out : List (List UInt8)) (rest : List Row) : [AV.own h0.length out.length].mapM (AW.resolve (h0 ++ ⟨9, 1, txtCells out⟩ :: rest) 2) = some [.list 0 1 (txtCells out)] :=
  mapM_one (res_own (n := 0) (r := ⟨9, 1, txtCells out⟩) (by rw [getA0]; rfl) (by simp) (txtCells_flat out))
theorem fresh_strs {base l : Nat} {H : List Row} {E : Tag} {out : List ByteArray} (hl : H[l]? = some ⟨E, 1, out.map cStr⟩) (hb : base ≤ l) : FreshB base (l + 1) H (.own l out.length) (.list 0 1 (out.map cStr)) :=
  FreshB.mkown (lo := l + 1) (hi := l + 1) (FreshLLB.ofVals _ _ _ _ (by
    intro e he c hc
    obtain ⟨x, _, q⟩ := List.mem_map.1 he; subst q
    simp only [cStr, List.mem_singleton] at hc
    exact ⟨_, hc⟩)) hl (by simp) hb (Nat.lt_succ_self _) (Nat.le_refl _)
theorem fresh_two {lo hi : Nat} {H : List Row} {a r : AV} (h : FreshB lo hi H a r) (hlh : lo ≤ hi) (v : Value) : Fresh lo H (.tup [a, .val v]) (.tup [r, .val v]) :=
  (FreshB.tup (FreshLB.cons h (FreshLB.val v (FreshLB.nil hi hi H)) ⟨hlh, Nat.le_refl _⟩)).fresh
theorem putR_txts {out : List (List UInt8)} (h : subsL out = true) : putR (out.map txt) = putL out := by
  rw [putR, subsOk_txts, if_pos h, bss_txts]
theorem runG_step (take : List UInt8 → Option (List UInt8 × List UInt8)) (f : Nat) (l : List UInt8) (out : List (List UInt8)) (h : l ≠ []) : runG take (f + 1) l out = match take l with
    | none => none
    | some (t, r) => runG take f r (out ++ [t]) := by
  rw [runG, if_neg h]; cases take l <;> rfl
theorem txt_nil_iff (l : List UInt8) : (txt l = txt []) = (l = []) := txt_inj l []
def c_impl_GetSubs : LC :=
 .seq (.ops [⟨some 2, none, .mov (.const (.slice none 0 0))⟩, ⟨some 3, none, .mov (.const (.bool false))⟩]) (.seq (.ops [⟨some 8, none, .buildSlice 9 1 (.string ⟨#[]⟩) 0 []⟩, ⟨some 9, none, .mov (.tmp 0)⟩, ⟨some 4, none,
 .mov (.tmp 8)⟩, ⟨some 5, none, .mov (.tmp 9)⟩]) (.seq (.block 0 (.loop (.seq (.seq (.ops [⟨some 10, none, .mov (.tmp 5)⟩, ⟨some 11, none, .bin .neq false (.tmp 10) (.const (.string ⟨#[]⟩))⟩, ⟨some 12, none, .mov (.tmp
 11)⟩, ⟨some 13, (some (12, true)), .mov (.tmp 4)⟩, ⟨some 14, (some (12, true)), .lenSl (.tmp 13)⟩, ⟨some 15, (some (12, true)), .bin .leq false (.tmp 14) (.const (.int .i64 4))⟩, ⟨some 16, none, .pick (.tmp 12) (.tmp 15)
 (.const (.bool false))⟩]) (.cond (.tmp 16) (.skip) (.exit 0))) (.block 1 (.seq (.ops [⟨some 6, none, .mov (.const (.string ⟨#[]⟩))⟩]) (.seq (.ops [⟨some 7, none, .mov (.const (.bool false))⟩]) (.seq (.seq (.ops [⟨some 17,
 none, .mov (.tmp 5)⟩, ⟨some 18, none, .indexStr (.tmp 17) (.const (.int .i64 0))⟩]) (.block 2 (.seq (.ops [⟨some 20, none, .bin .eql false (.tmp 18) (.const (.int .u8 1))⟩, ⟨some 19, none, .mov (.tmp 20)⟩]) (.cond (.tmp
 19) (.ops [⟨some 22, none, .mov (.tmp 5)⟩, ⟨some 23, none, .sliceStr (.tmp 22) (some (.const (.int .i64 1))) none⟩, ⟨some 24, none, .call 222 [.tmp 23]⟩, ⟨some 21, none, .mov (.tmp 24)⟩, ⟨some 25, none, .extract (.tmp 21)
 0⟩, ⟨some 26, none, .extract (.tmp 21) 1⟩, ⟨some 27, none, .extract (.tmp 21) 2⟩, ⟨some 6, none, .mov (.tmp 25)⟩, ⟨some 5, none, .mov (.tmp 26)⟩, ⟨some 7, none, .mov (.tmp 27)⟩]) (.seq (.ops [⟨some 29, none, .bin .eql
 false (.tmp 18) (.const (.int .u8 2))⟩, ⟨some 28, none, .mov (.tmp 29)⟩]) (.cond (.tmp 28) (.ops [⟨some 31, none, .mov (.tmp 5)⟩, ⟨some 32, none, .sliceStr (.tmp 31) (some (.const (.int .i64 1))) none⟩, ⟨some 33, none,
 .call 223 [.tmp 32]⟩, ⟨some 30, none, .mov (.tmp 33)⟩, ⟨some 34, none, .extract (.tmp 30) 0⟩, ⟨some 35, none, .extract (.tmp 30) 1⟩, ⟨some 36, none, .extract (.tmp 30) 2⟩, ⟨some 6, none, .mov (.tmp 34)⟩, ⟨some 5, none,
 .mov (.tmp 35)⟩, ⟨some 7, none, .mov (.tmp 36)⟩]) (.skip))))))) (.seq (.seq (.ops [⟨some 37, none, .mov (.tmp 7)⟩, ⟨some 38, none, .un .not (.tmp 37)⟩]) (.cond (.tmp 38) (.seq (.ops [⟨some 2, none, .mov (.const (.slice
 none 0 0))⟩, ⟨some 3, none, .mov (.const (.bool false))⟩]) (.ret)) (.skip))) (.ops [⟨some 39, none, .mov (.tmp 4)⟩, ⟨some 40, none, .mov (.tmp 6)⟩, ⟨some 41, none, .buildSlice 9 1 (.string ⟨#[]⟩) 1 [(0, .tmp 40)]⟩, ⟨some
 42, none, .append 9 1 16 (.tmp 39) (.tmp 41)⟩, ⟨some 4, none, .mov (.tmp 42)⟩]))))))))) (.seq (.seq (.ops [⟨some 43, none, .mov (.tmp 4)⟩, ⟨some 44, none, .call 138 [.tmp 43]⟩, ⟨some 45, none, .un .not (.tmp 44)⟩, ⟨some
 46, none, .mov (.tmp 45)⟩, ⟨some 47, (some (46, false)), .mov (.tmp 4)⟩, ⟨some 48, (some (46, false)), .call 163 [.tmp 47]⟩, ⟨some 49, (some (46, false)), .mov (.tmp 0)⟩, ⟨some 50, (some (46, false)), .bin .neq false
 (.tmp 48) (.tmp 49)⟩, ⟨some 51, none, .pick (.tmp 46) (.const (.bool true)) (.tmp 50)⟩]) (.cond (.tmp 51) (.seq (.ops [⟨some 2, none, .mov (.const (.slice none 0 0))⟩, ⟨some 3, none, .mov (.const (.bool false))⟩]) (.ret))
 (.skip))) (.seq (.ops [⟨some 52, none, .mov (.tmp 4)⟩, ⟨some 2, none, .mov (.tmp 52)⟩, ⟨some 3, none, .mov (.const (.bool true))⟩]) (.ret)))))
def lf_impl_GetSubs : LF := { np := 1, N := 53, body := c_impl_GetSubs, res := [.tmp 2, .tmp 3] }
theorem low_impl_GetSubs : LowF Tryz.prog Tryz.f196 lf_impl_GetSubs := LowF.mk' (by kernel_rfl) (by kernel_rfl) (by kernel_rfl) (by decide)

theorem impl_GetSubs_fresh (s : ByteArray) (hs : s.size ≤ 1048576) : FreshCall Tryz.prog 196 [.val (.string s)] (bothR (getR s)) (fun a => ∃ b q, a = .tup [b, .val (.bool q)]) := by
  refine fresh_fn mixed Tryz.func196 low_impl_GetSubs rfl (fun h0 => ?_)
  have hbl := bs_len s
  simp (disch := omega) only [lf_impl_GetSubs, c_impl_GetSubs, go_sem, Nat.reduceEqDiff, reduceCtorEq, ↓reduceIte]
  refine Ex_loop (fun n t h => ∃ (out : List (List UInt8)) (left : List UInt8) (rest : List Row), t 0 = .val (.string s) ∧ t 4 = .own h0.length out.length ∧ t 5 = .val (.string (txt left)) ∧ h = h0 ++ ⟨9, 1, txtCells out⟩ :: rest ∧ n = 5 - out.length ∧ out.length ≤ 5 ∧ left.length ≤ s.size ∧ runG takeI 5 (bs s) [] = runG takeI (5 - out.length) left out) 5 ?_ ?_
  · exact ⟨[], bs s, [], rfl, rfl, by rw [txt_bs]; rfl, rfl, rfl, by simp, Nat.le_of_eq (bs_len s), rfl⟩
  rintro J hJ n t h ⟨out, left, rest, t0, t4, t5, rfl, rfl, ho, hle, hS⟩
  have fl : (txtCells out).length = out.length := by simp
  have hA := res_txts h0 out rest
  by_cases q0 : left = []
  · subst q0
    have hR : runG takeI 5 (bs s) [] = some (out, []) := by
      rw [hS]; cases 5 - out.length with
      | zero => rw [runG]
      | succ f => rw [runG, if_pos rfl]
    have q0' : (txt ([] : List UInt8) = txt []) = True := by simp
    simp (disch := omega) only [t4, t5, fl, Ex_cond, go_sem, Nat.reduceEqDiff, Nat.reduceLeDiff, Int.reduceLE, Int.reduceToNat, ↓reduceIte]
    refine PureCall.call (AW.frozen (impl_SubsOk_ok (out.map txt) (by simp; omega)) hA) ?_
    by_cases s1 : subsL out = true
    case neg =>
      have s1' : subsOk (out.map txt) = false := by rw [subsOk_txts]; simpa using s1
      simp (disch := omega) only [t4, s1', Ex_cond, go_sem, Nat.reduceEqDiff, ↓reduceIte]
      rw [getR_no hR (fun q => s1 q.2.1)]
      exact ⟨_, rfl, fresh_two (FreshB.mknil _ _ _ 1) (Nat.le_refl _) _, _, _, rfl⟩
    have s1' : subsOk (out.map txt) = true := by rw [subsOk_txts]; exact s1
    simp (disch := omega) only [t4, s1', go_sem, Nat.reduceEqDiff, ↓reduceIte]
    refine PureCall.call (AW.frozen (impl_PutSubs_ok (out.map txt) (by simp; omega)) hA) ?_
    rw [putR_txts s1]
    by_cases s2 : putL out = bs s
    case neg =>
      have s2' : (txt (putL out) = s) = False := by rw [eq_iff_iff, iff_false]; intro e; exact s2 (by rw [← e]; exact (txt_data _).symm)
      simp (disch := omega) only [t0, t4, s2', Ex_cond, go_sem, Nat.reduceEqDiff, reduceCtorEq, ↓reduceIte]
      rw [getR_no hR (fun q => s2 q.2.2)]
      exact ⟨_, rfl, fresh_two (FreshB.mknil _ _ _ 1) (Nat.le_refl _) _, _, _, rfl⟩
    have s2' : (txt (putL out) = s) = True := by rw [s2, txt_bs]; simp
    simp (disch := omega) only [t0, t4, s2', Ex_cond, go_sem, Nat.reduceEqDiff, reduceCtorEq, ↓reduceIte]
    rw [getR_yes hR s1 s2]
    have hz := fresh_two (fresh_strs (base := h0.length) (l := h0.length) (E := 9) (out := out.map txt) (H := h0 ++ ⟨9, 1, txtCells out⟩ :: rest) (by rw [getA0]; rfl) (Nat.le_refl _)) (by omega) (.bool true)
    rw [List.length_map] at hz
    exact ⟨_, rfl, hz, _, _, rfl⟩
  · have hpos : 0 < left.length := by cases left with
      | nil => exact absurd rfl q0
      | cons b l => simp
    have q0' : (txt left = txt []) = False := by rw [txt_nil_iff]; simp [q0]
    by_cases q4 : out.length ≤ 4
    · have q4' : (out.length : Int) ≤ 4 := by omega
      have e5 : 5 - out.length = (4 - out.length) + 1 := by omega
      rw [e5, runG_step takeI (4 - out.length) left out q0] at hS
      have hdl : (left.drop 1).length ≤ 1048576 := by rw [List.length_drop]; omega
      by_cases q1 : left[0] = 1
      · have q1' : ((left[0].toNat : Int) = 1) = True := by simp [q1]
        simp (disch := omega) only [t4, t5, q0', q4', q1', fl, List.take_length, Ex_cond, go_sem, Nat.reduceEqDiff, Nat.reduceLeDiff, Int.reduceLE, Int.reduceToNat, ↓reduceIte]
        have hc := fun h => impl_getNumber_ok (left.drop 1) hdl h
        cases hn : numI (left.drop 1) with
        | none =>
          rw [hn, threeR_none] at hc
          rw [takeI_at left hpos, if_pos q1, hn] at hS
          refine PureCall.call (hc _) ?_
          simp (disch := omega) only [t4, fl, Ex_cond, go_sem, Nat.reduceEqDiff, Nat.reduceLeDiff, ↓reduceIte]
          rw [getR_stop (by rw [hS])]
          exact ⟨_, rfl, fresh_two (FreshB.mknil _ _ _ 1) (Nat.le_refl _) _, _, _, rfl⟩
        | some p =>
          obtain ⟨x, r⟩ := p
          rw [hn, threeR_some] at hc
          have hlen := takeI_len left x r (by rw [takeI_at left hpos, if_pos q1, hn])
          rw [takeI_at left hpos, if_pos q1, hn] at hS
          refine PureCall.call (hc _) ?_
          simp (disch := omega) only [t4, fl, Ex_cond, go_sem, Nat.reduceEqDiff, Nat.reduceLeDiff, ↓reduceIte]
          refine ⟨by omega, by omega, ?_⟩
          try simp (disch := omega) only [t0, t4, t5, q0', q4', fl, Ex_cond, go_sem, Nat.reduceEqDiff, Nat.reduceAdd, Nat.reduceLeDiff, reduceCtorEq, Int.reduceLT, Int.reduceLE, Int.reduceNeg, Int.reduceSub, Int.reduceAdd, Int.reduceToNat, ↓reduceIte]
          exact ⟨5 - (out.length + 1), by omega, hJ _ _ _ ⟨out ++ [x], r, rest ++ [⟨9, 1, [[.val (.string (txt x))]]⟩], by simp [upd, t0], by simp [upd], by simp [upd], by simp [cStr], by simp, by simp; omega, by omega, by simpa [Nat.sub_sub] using hS⟩⟩
      · have q1' : ((left[0].toNat : Int) = 1) = False := by rw [eq_iff_iff, iff_false]; intro e; exact q1 (UInt8.toNat_inj.1 (by have h2 : (1 : UInt8).toNat = 1 := rfl; omega))
        by_cases q2 : left[0] = 2
        · have q2' : ((left[0].toNat : Int) = 2) = True := by simp [q2]
          simp (disch := omega) only [t4, t5, q0', q4', q1', q2', fl, List.take_length, Ex_cond, go_sem, Nat.reduceEqDiff, Nat.reduceLeDiff, Int.reduceLE, Int.reduceToNat, ↓reduceIte]
          have hc := fun h => impl_getString_ok (left.drop 1) hdl h
          cases hn : unesc (left.drop 1) [] with
          | none =>
            rw [hn, threeR_none] at hc
            rw [takeI_at left hpos, if_neg q1, if_pos q2, hn] at hS
            refine PureCall.call (hc _) ?_
            simp (disch := omega) only [t4, fl, Ex_cond, go_sem, Nat.reduceEqDiff, Nat.reduceLeDiff, ↓reduceIte]
            rw [getR_stop (by rw [hS])]
            exact ⟨_, rfl, fresh_two (FreshB.mknil _ _ _ 1) (Nat.le_refl _) _, _, _, rfl⟩
          | some p =>
            obtain ⟨x, r⟩ := p
            rw [hn, threeR_some] at hc
            have hlen := takeI_len left x r (by rw [takeI_at left hpos, if_neg q1, if_pos q2, hn])
            rw [takeI_at left hpos, if_neg q1, if_pos q2, hn] at hS
            refine PureCall.call (hc _) ?_
            simp (disch := omega) only [t4, fl, Ex_cond, go_sem, Nat.reduceEqDiff, Nat.reduceLeDiff, ↓reduceIte]
            refine ⟨by omega, by omega, ?_⟩
            try simp (disch := omega) only [t0, t4, t5, q0', q4', fl, Ex_cond, go_sem, Nat.reduceEqDiff, Nat.reduceAdd, Nat.reduceLeDiff, reduceCtorEq, Int.reduceLT, Int.reduceLE, Int.reduceNeg, Int.reduceSub, Int.reduceAdd, Int.reduceToNat, ↓reduceIte]
            exact ⟨5 - (out.length + 1), by omega, hJ _ _ _ ⟨out ++ [x], r, rest ++ [⟨9, 1, [[.val (.string (txt x))]]⟩], by simp [upd, t0], by simp [upd], by simp [upd], by simp [cStr], by simp, by simp; omega, by omega, by simpa [Nat.sub_sub] using hS⟩⟩
        · have q2' : ((left[0].toNat : Int) = 2) = False := by rw [eq_iff_iff, iff_false]; intro e; exact q2 (UInt8.toNat_inj.1 (by have h2 : (2 : UInt8).toNat = 2 := rfl; omega))
          rw [takeI_at left hpos, if_neg q1, if_neg q2] at hS
          simp (disch := omega) only [t4, t5, q0', q4', q1', q2', fl, List.take_length, Ex_cond, go_sem, Nat.reduceEqDiff, Nat.reduceLeDiff, Int.reduceLE, Int.reduceToNat, ↓reduceIte]
          rw [getR_stop (by rw [hS])]
          exact ⟨_, rfl, fresh_two (FreshB.mknil _ _ _ 1) (Nat.le_refl _) _, _, _, rfl⟩
    · have q4' : ¬ (out.length : Int) ≤ 4 := by omega
      have e0 : 5 - out.length = 0 := by omega
      have hR : runG takeI 5 (bs s) [] = some (out, left) := by rw [hS, e0, runG]
      have s1 : ¬ subsL out = true := fun q => q4 (subsL_len q)
      simp (disch := omega) only [t4, t5, q0', q4', fl, Ex_cond, go_sem, Nat.reduceEqDiff, Nat.reduceLeDiff, Int.reduceLE, Int.reduceToNat, ↓reduceIte]
      refine PureCall.call (AW.frozen (impl_SubsOk_ok (out.map txt) (by simp; omega)) hA) ?_
      have s1' : subsOk (out.map txt) = false := by rw [subsOk_txts]; simpa using s1
      simp (disch := omega) only [t4, s1', Ex_cond, go_sem, Nat.reduceEqDiff, ↓reduceIte]
      rw [getR_no hR (fun q => s1 q.2.1)]
      exact ⟨_, rfl, fresh_two (FreshB.mknil _ _ _ 1) (Nat.le_refl _) _, _, _, rfl⟩
theorem impl_GetSubs_ok (s : ByteArray) (hs : s.size ≤ 1048576) (h : List Row) : PureCall Tryz.prog 196 [.val (.string s)] h (bothR (getR s)) := (impl_GetSubs_fresh s hs).pure rfl h
end Go.Proofs.YtclhpcfpchpbnaaGreatDoor
