/-
  Contracts of functions of this program, over abstract values. Conditions: as each theorem says.
-/
import Derived.Test.YtclhpcfpchpbnaaGreatDoorFnKB
namespace Go.Proofs.YtclhpcfpchpbnaaGreatDoor
open Go.AW
set_option linter.unusedVariables false
set_option linter.unusedSimpArgs false
set_option maxRecDepth 4000

theorem be8_get (n k : Nat) (h : k < (be8 n).length) : (be8 n)[k] = byteAt n (7 - k) := by
  rw [be8_length] at h
  rcases (by omega : k = 0 ∨ k = 1 ∨ k = 2 ∨ k = 3 ∨ k = 4 ∨ k = 5 ∨ k = 6 ∨ k = 7) with e | e | e | e | e | e | e | e <;> subst e <;> rfl
theorem be8_next (n k : Nat) (h : k < 8) : (be8 n).take (k + 1) = (be8 n).take k ++ [byteAt n (7 - k)] := by
  rw [List.take_succ_eq_append_getElem (by rw [be8_length]; exact h), be8_get]
theorem be8_all (n k : Nat) (h : k = 8) : (be8 n).take k = be8 n := by subst h; rfl
theorem byte56 (n k : Nat) (h : k < 8) : IntKind.u8.wrap ((n : Int).fdiv (2 ^ min (56 - 8 * (k : Int)).toNat 64)) = ((byteAt n (7 - k)).toNat : Int) := by
  have e : (56 - 8 * (k : Int)).toNat = (8 * ((7 - k : Nat) : Int)).toNat := by omega
  rw [e, shr_byte _ _ (by omega), wrapB_byte]
def c_impl_putSub : LC :=
 .seq (.seq (.ops [⟨some 6, none, .mov (.tmp 1)⟩, ⟨some 7, none, .call 224 [.tmp 6]⟩]) (.cond (.tmp 7) (.seq (.ops [⟨some 8, none, .mov (.tmp 1)⟩, ⟨some 9, none, .call 225 [.tmp 8]⟩, ⟨some 10, none, .bin .add false (.tmp
 9) (.const (.int .i64 1000000000000000000))⟩, ⟨some 11, none, .convInt .u64 (.tmp 10)⟩, ⟨some 4, none, .mov (.tmp 11)⟩]) (.seq (.ops [⟨some 12, none, .mov (.tmp 0)⟩, ⟨some 13, none, .call 226 [.tmp 12, .const (.int .u8
 1)]⟩]) (.seq (.seq (.ops [⟨some 5, none, .mov (.const (.int .i64 56))⟩]) (.block 0 (.loop (.seq (.seq (.ops [⟨some 14, none, .mov (.tmp 5)⟩, ⟨some 15, none, .bin .geq false (.tmp 14) (.const (.int .i64 0))⟩]) (.cond (.tmp
 15) (.skip) (.exit 0))) (.seq (.block 1 (.ops [⟨some 18, none, .mov (.tmp 0)⟩, ⟨some 19, none, .mov (.tmp 4)⟩, ⟨some 20, none, .mov (.tmp 5)⟩, ⟨some 21, none, .bin .shr false (.tmp 19) (.tmp 20)⟩, ⟨some 22, none, .convInt
 .u8 (.tmp 21)⟩, ⟨some 23, none, .call 226 [.tmp 18, .tmp 22]⟩])) (.ops [⟨some 16, none, .mov (.tmp 5)⟩, ⟨some 17, none, .bin .sub false (.tmp 16) (.const (.int .i64 8))⟩, ⟨some 5, none, .mov (.tmp 17)⟩])))))) (.ret))))
 (.skip))) (.seq (.ops [⟨some 24, none, .mov (.tmp 0)⟩, ⟨some 25, none, .call 226 [.tmp 24, .const (.int .u8 2)]⟩]) (.seq (.ops [⟨some 26, none, .mov (.tmp 0)⟩, ⟨some 27, none, .mov (.tmp 1)⟩, ⟨some 28, none, .call 228
 [.tmp 27, .const (.string ⟨#[0]⟩), .const (.string ⟨#[0, 255]⟩)]⟩, ⟨some 29, none, .call 227 [.tmp 26, .tmp 28]⟩]) (.ops [⟨some 30, none, .mov (.tmp 0)⟩, ⟨some 31, none, .call 227 [.tmp 30, .const (.string ⟨#[0,
 0]⟩)]⟩])))
def lf_impl_putSub : LF := { np := 2, N := 32, body := c_impl_putSub, res := [] }
theorem low_impl_putSub : LowF Tryz.prog Tryz.f200 lf_impl_putSub := LowF.mk' (by kernel_rfl) (by kernel_rfl) (by kernel_rfl) (by decide)

theorem impl_putSub_b {b : Nat} {l : List UInt8} {s : ByteArray} (hs : s.size ≤ 1048576) (hl : l.length ≤ 1000000000) {K : AV → Bd → Prop} (hk : K (.tup []) (some (b, l ++ subKey (bs s)))) : callB Tryz.prog 180 5 200 [bldP b, .val (.string s)] (some (b, l)) K := by
  refine callB_fn (by decide) mixed Tryz.func200 low_impl_putSub rfl ?_
  simp (disch := omega) only [lf_impl_putSub, c_impl_putSub, go_sem, ↓reduceIte]
  refine PureCall.b rfl (impl_IsCanon_okB s hs _) ?_
  have hbl : (bs s).length = s.size := bs_len s
  by_cases q : canon (bs s) = true
  · simp (disch := omega) only [q, go_sem, Nat.reduceEqDiff, ↓reduceIte]
    refine PureCall.b rfl (impl_NumOf_okB s hs _) ?_
    have hn := numOf_le (bs s)
    have hq := keyNum_eq (bs s)
    have hq2 := keyNum_le (bs s)
    have hkey : subKey (bs s) = 1 :: be8 (keyNum (bs s)) := by unfold subKey; rw [if_pos q]
    rw [hkey] at hk
    simp (disch := omega) only [go_sem, reduceCtorEq, ↓reduceIte, wrap_in, ← hq, wrapU_in]
    refine wByte (c := 1) (by omega) ?_
    simp (disch := omega) only [go_sem]
    refine BEx_loop (fun n t σ => ∃ k : Nat, t 0 = bldP b ∧ t 4 = .val (.int .u64 (keyNum (bs s))) ∧ t 5 = .val (.int .i64 (56 - 8 * k)) ∧ σ = some (b, (l ++ [1]) ++ (be8 (keyNum (bs s))).take k) ∧ n = 8 - k ∧ k ≤ 8) 8 ?_ ?_
    · exact ⟨0, rfl, rfl, rfl, by simp, rfl, by omega⟩
    · rintro J hJ n t σ ⟨k, t0, t4, t5, rfl, rfl, hk8⟩
      by_cases h8 : k < 8
      · have hlt : (0 : Int) ≤ 56 - 8 * k := by omega
        have hlen : ((be8 (keyNum (bs s))).take k).length ≤ 8 := by rw [List.length_take, be8_length]; omega
        simp (disch := omega) only [t0, t4, t5, hlt, bin_shr, byte56, go_sem, Nat.reduceEqDiff, reduceCtorEq, ↓reduceIte]
        refine wByte (by simp only [List.length_append, List.length_cons]; omega) ?_
        simp (disch := omega) only [t5, wrap_in, go_sem, Nat.reduceEqDiff, ↓reduceIte]
        exact ⟨8 - (k + 1), by omega, hJ _ _ _ ⟨k + 1, by simp [upd, t0], by simp [upd, t4], by simp [upd]; omega, by rw [be8_next _ _ h8]; simp, rfl, by omega⟩⟩
      · have hlt : ¬ (0 : Int) ≤ 56 - 8 * k := by omega
        simp (disch := omega) only [t5, hlt, go_sem, ↓reduceIte]
        rw [be8_all _ _ (by omega)]
        simpa using hk
  · have q' : canon (bs s) = false := by simpa using q
    have hkey : subKey (bs s) = 2 :: (esc (bs s) ++ [0, 0]) := by unfold subKey; rw [if_neg q]
    have he := esc_length (bs s)
    rw [hkey] at hk
    simp (disch := omega) only [q', go_sem, reduceCtorEq, ↓reduceIte]
    refine wByte (c := 2) (by omega) ?_
    simp (disch := omega) only [go_sem, Nat.reduceEqDiff, reduceCtorEq, ↓reduceIte]
    refine PureCall.b rfl (by
      have := strings_ReplaceAll_ok (bs s) (by omega) []
      rw [txt_bs] at this
      exact this) ?_
    simp (disch := omega) only [go_sem, Nat.reduceEqDiff, ↓reduceIte]
    refine wStr (by simp only [List.length_append, List.length_cons, List.length_nil]; omega) (fun r1 => ?_)
    simp (disch := omega) only [go_sem, reduceCtorEq, ↓reduceIte]
    refine wStr (by simp only [List.length_append, List.length_cons, List.length_nil]; omega) (fun r2 => ?_)
    simp (disch := omega) only [go_sem]
    simpa using hk

/-- What PutSubs gives. -/
def putR (xs : List ByteArray) : List UInt8 := if subsOk xs = true then putL (bss xs) else []
theorem putL_app (xs ys : List (List UInt8)) : putL (xs ++ ys) = putL xs ++ putL ys := by simp [putL]
theorem subsOk_mem {xs : List ByteArray} (h : subsOk xs = true) : xs.length ≤ 4 ∧ ∀ x ∈ xs, 1 ≤ x.size ∧ x.size ≤ 24 := by
  simp only [subsOk, Bool.and_eq_true, decide_eq_true_eq, List.all_eq_true, subOk] at h
  exact ⟨by omega, fun x hx => by have := h.2 x hx; omega⟩
theorem putL_len : ∀ (xs : List ByteArray), (∀ x ∈ xs, x.size ≤ 24) → (putL (bss xs)).length ≤ 57 * xs.length
  | [], _ => by simp [putL, bss]
  | x :: xs, h => by
    have h1 := subKey_length (bs x)
    have h2 := putL_len xs (fun y hy => h y (List.mem_cons_of_mem _ hy))
    have h3 := h x List.mem_cons_self
    rw [bs_len] at h1
    rw [bss, List.map_cons, putL_cons, List.length_append, List.length_cons]
    simp only [bss] at h2
    simp only [bs] at h1
    omega
def c_impl_PutSubs : LC :=
 .seq (.ops [⟨some 2, none, .mov (.const (.string ⟨#[]⟩))⟩]) (.seq (.seq (.ops [⟨some 6, none, .mov (.tmp 0)⟩, ⟨some 7, none, .call 138 [.tmp 6]⟩, ⟨some 8, none, .un .not (.tmp 7)⟩]) (.cond (.tmp 8) (.seq (.ops [⟨some 2,
 none, .mov (.const (.string ⟨#[]⟩))⟩]) (.ret)) (.skip))) (.seq (.ops [⟨some 3, none, .alloc 180 (.agg #[.pointer none, .slice none 0 0])⟩]) (.seq (.seq (.ops [⟨some 9, none, .mov (.tmp 0)⟩, ⟨some 10, none, .lenSl (.tmp
 9)⟩, ⟨some 11, none, .mov (.const (.int .i64 0))⟩]) (.block 0 (.loop (.seq (.ops [⟨some 12, none, .bin .lss false (.tmp 11) (.tmp 10)⟩]) (.seq (.cond (.tmp 12) (.skip) (.exit 0)) (.seq (.block 1 (.seq (.ops [⟨some 13,
 none, .indexAddr 1 (.tmp 9) (.tmp 11)⟩, ⟨some 14, none, .load none (.tmp 13)⟩, ⟨some 5, none, .mov (.tmp 14)⟩]) (.ops [⟨some 15, none, .mov (.tmp 5)⟩, ⟨some 16, none, .call 200 [.tmp 3, .tmp 15]⟩]))) (.ops [⟨some 17,
 none, .bin .add false (.tmp 11) (.const (.int .i64 1))⟩, ⟨some 11, none, .mov (.tmp 17)⟩]))))))) (.seq (.ops [⟨some 18, none, .call 201 [.tmp 3]⟩, ⟨some 2, none, .mov (.tmp 18)⟩]) (.ret)))))
def lf_impl_PutSubs : LF := { np := 1, N := 19, body := c_impl_PutSubs, res := [.tmp 2] }
theorem low_impl_PutSubs : LowF Tryz.prog Tryz.f163 lf_impl_PutSubs := LowF.mk' (by kernel_rfl) (by kernel_rfl) (by kernel_rfl) (by decide)

theorem impl_PutSubs_ok (xs : List ByteArray) (hx : xs.length ≤ 1048576) (h : List Row) : PureCall Tryz.prog 163 [.list 0 1 (xs.map cStr)] h (.val (.string (txt (putR xs)))) := by
  refine pure_of_callB (T := 180) (e := 5) rfl rfl ?_ h
  refine callB_fn (by decide) mixed Tryz.func163 low_impl_PutSubs rfl ?_
  simp (disch := omega) only [lf_impl_PutSubs, c_impl_PutSubs, go_sem, reduceCtorEq, ↓reduceIte]
  refine PureCall.b rfl (impl_SubsOk_ok xs hx _) ?_
  by_cases q : subsOk xs = true
  case neg =>
    have q' : subsOk xs = false := by simpa using q
    simp (disch := omega) only [q', go_sem, ↓reduceIte]
    rw [putR, if_neg q]
  obtain ⟨h4, hm⟩ := subsOk_mem q
  have hz : zBld = .agg #[.pointer none, .slice none 0 0] := rfl
  simp (disch := omega) only [q, ← hz, go_sem, reduceCtorEq, ↓reduceIte]
  refine fun b => ?_
  refine BEx_loop (fun n t σ => ∃ k : Nat, t 3 = bldP b ∧ t 9 = .list 0 1 (xs.map cStr) ∧ t 10 = .val (.int .i64 xs.length) ∧ t 11 = .val (.int .i64 k) ∧ σ = some (b, putL (bss (xs.take k))) ∧ n = xs.length - k ∧ k ≤ xs.length) xs.length ?_ ?_
  · exact ⟨0, rfl, rfl, rfl, rfl, rfl, rfl, by omega⟩
  · rintro J hJ n t σ ⟨k, t3, t9, t10, t11, rfl, rfl, hk⟩
    by_cases hlt : k < xs.length
    · have hl1 := putL_len (xs.take k) (fun x hx' => (hm x (List.mem_of_mem_take hx')).2)
      have hl2 : (xs.take k).length ≤ 4 := by rw [List.length_take]; omega
      simp (disch := omega) only [t3, t9, t10, t11, hlt, go_sem, Nat.reduceEqDiff, ↓reduceIte]
      refine impl_putSub_b (by have := hm _ (List.getElem_mem hlt); omega) (by omega) ?_
      simp (disch := omega) only [t11, wrap_in, go_sem, Nat.reduceEqDiff, ↓reduceIte]
      refine ⟨xs.length - (k + 1), by omega, hJ _ _ _ ⟨k + 1, by simp [upd, t3], by simp [upd, t9], by simp [upd, t10], by simp [upd], ?_, rfl, by omega⟩⟩
      rw [List.take_succ_eq_append_getElem hlt, bss, bss, List.map_append, putL_app]
      simp [putL]
    · simp (disch := omega) only [t3, t10, t11, hlt, go_sem, Nat.reduceEqDiff, ↓reduceIte]
      rw [List.take_of_length_le (by omega)]
      refine wText ?_
      simp (disch := omega) only [go_sem, ↓reduceIte]
      rw [putR, if_pos q]
end Go.Proofs.YtclhpcfpchpbnaaGreatDoor
