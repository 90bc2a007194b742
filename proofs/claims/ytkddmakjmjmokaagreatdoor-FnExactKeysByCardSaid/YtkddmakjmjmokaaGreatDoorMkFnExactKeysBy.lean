/-
  Contracts of functions of this program, over abstract values. Conditions: as each theorem says.
-/
import Derived.Test.YtkddmakjmjmokaaGreatDoorGnFnExactKeysBy
import Derived.Test.YtkddmakjmjmokaaGreatDoorAwC
import Derived.Test.YtkddmakjmjmokaaGreatDoorPlNum
namespace Go.Proofs.YtkddmakjmjmokaaGreatDoor
open Go.AW
set_option linter.unusedVariables false
set_option linter.unusedSimpArgs false
set_option maxRecDepth 4000

/-- The text of a mark. -/
def mtext (k : Int) : ByteArray := if k ≤ 0 then txt [109, 48] else txt (109 :: wholeD k.toNat)
theorem wholeD_more (u : Nat) (h : u ≠ 0) : wholeD u = wholeD (u / 10) ++ [UInt8.ofNat (48 + u % 10)] := by
  unfold wholeD
  rw [if_neg h, Lib.decDigits]
  by_cases q : u < 10
  · rw [dif_pos q, if_pos (by omega)]
    have : u % 10 = u := by omega
    rw [this]; rfl
  · rw [dif_neg q, if_neg (by omega)]
theorem wholeD_short (u : Nat) (h : u ≤ 4611686018427387904) : (wholeD u).length ≤ 19 := by
  unfold wholeD
  split
  · simp
  · rw [Go.Lib.decDigits_length]; exact nDigits_le 18 _ (by omega)
def c_laws_markText : LC :=
 .seq (.ops [⟨some 2, none, .mov (.const (.string ⟨#[]⟩))⟩]) (.seq (.seq (.ops [⟨some 4, none, .mov (.tmp 0)⟩, ⟨some 5, none, .bin .leq false (.tmp 4) (.const (.int .i64 0))⟩]) (.cond (.tmp 5) (.seq (.ops [⟨some 2, none,
 .mov (.const (.string ⟨#[109, 48]⟩))⟩]) (.ret)) (.skip))) (.seq (.ops [⟨some 3, none, .mov (.const (.string ⟨#[]⟩))⟩]) (.seq (.block 0 (.loop (.seq (.seq (.ops [⟨some 6, none, .mov (.tmp 0)⟩, ⟨some 7, none, .bin .gtr
 false (.tmp 6) (.const (.int .i64 0))⟩]) (.cond (.tmp 7) (.skip) (.exit 0))) (.block 1 (.seq (.ops [⟨some 8, none, .mov (.tmp 0)⟩, ⟨some 9, none, .bin .rem false (.tmp 8) (.const (.int .i64 10))⟩, ⟨some 10, none, .bin
 .add false (.const (.int .i64 48)) (.tmp 9)⟩, ⟨some 11, none, .convInt .u8 (.tmp 10)⟩, ⟨some 12, none, .buildSlice 5 1 (.int .u8 0) 1 [(0, .tmp 11)]⟩, ⟨some 13, none, .toStr (.tmp 12)⟩, ⟨some 14, none, .mov (.tmp 3)⟩,
 ⟨some 15, none, .bin .add false (.tmp 13) (.tmp 14)⟩, ⟨some 3, none, .mov (.tmp 15)⟩]) (.ops [⟨some 16, none, .mov (.tmp 0)⟩, ⟨some 17, none, .bin .quo false (.tmp 16) (.const (.int .i64 10))⟩, ⟨some 0, none, .mov (.tmp
 17)⟩])))))) (.seq (.ops [⟨some 18, none, .mov (.tmp 3)⟩, ⟨some 19, none, .bin .add false (.const (.string ⟨#[109]⟩)) (.tmp 18)⟩, ⟨some 2, none, .mov (.tmp 19)⟩]) (.ret)))))
def lf_laws_markText : LF := { np := 1, N := 20, body := c_laws_markText, res := [.tmp 2] }
theorem low_laws_markText : LowF Tryz.prog Tryz.f33 lf_laws_markText := LowF.mk' (by kernel_rfl) (by kernel_rfl) (by kernel_rfl) (by decide)

theorem markText_ok (k : Int) (hk : 0 ≤ k) (hb : k ≤ 4611686018427387904) (h : List Row) : PureCall Tryz.prog 33 [.val (.int .i64 k)] h (.val (.string (mtext k))) := by
  refine pure_fn mixed Tryz.func33 low_laws_markText rfl rfl ?_ h
  by_cases h0 : k ≤ 0
  · simp (disch := omega) only [lf_laws_markText, c_laws_markText, h0, go_sem, reduceCtorEq, ↓reduceIte]
    exact resolve_str (by rw [mtext, if_pos h0])
  · simp (disch := omega) only [lf_laws_markText, c_laws_markText, h0, go_sem, reduceCtorEq, ↓reduceIte]
    have hL := wholeD_short k.toNat (by omega)
    refine Ex_loop (fun n t h => ∃ (u : Nat) (out : List UInt8), t 0 = .val (.int .i64 u) ∧ t 3 = .val (.string (txt out)) ∧ u = n ∧ u ≤ 4611686018427387904 ∧ wholeD k.toNat = wholeD u ++ out) k.toNat ⟨k.toNat, [], by simp [upd, initT]; omega, rfl, rfl, by omega, by simp⟩ ?_
    rintro J hJ n t h ⟨u, out, t0, t3, rfl, hu, hS⟩
    by_cases hz : 0 < u
    · have hm := wholeD_more u (by omega)
      have hlen := congrArg List.length hS
      simp only [List.length_append] at hlen
      have hl1 : ([UInt8.ofNat (48 + u % 10)] : List UInt8).length + out.length ≤ 9223372036854775807 := by simp only [List.length_cons, List.length_nil]; omega
      have e1 : ((u : Int) % 10).toNat = u % 10 := by omega
      have e2 : (48 + (u : Int) % 10).toNat = 48 + u % 10 := by omega
      have e3 : ((u : Int) / 10) = ((u / 10 : Nat) : Int) := by omega
      simp (disch := omega) only [t0, t3, hz, e2, e3, bin_sadd _ _ _ hl1, go_sem, Nat.reduceEqDiff, reduceCtorEq, ↓reduceIte]
      exact ⟨u / 10, by omega, hJ _ _ _ ⟨u / 10, UInt8.ofNat (48 + u % 10) :: out, by simp [upd], by simp [upd], rfl, by omega, by rw [hS, hm, List.append_assoc]; rfl⟩⟩
    · have hz' : u = 0 := by omega
      subst hz'
      have hlen := congrArg List.length hS
      simp only [List.length_append] at hlen
      have hl2 : ([109] : List UInt8).length + out.length ≤ 9223372036854775807 := by simp only [List.length_cons, List.length_nil]; omega
      simp (disch := omega) only [t0, t3, bin_sadd _ _ _ hl2, go_sem, Nat.reduceEqDiff, Int.reduceLT, ↓reduceIte]
      exact resolve_str (by rw [mtext, if_neg h0, hS]; rfl)

def c_laws_markStringS : LC :=
 .seq (.ops [⟨some 4, none, .mov (.const (.int .i64 0))⟩]) (.seq (.seq (.ops [⟨some 5, none, .mov (.const (.int .i64 0))⟩]) (.block 0 (.loop (.seq (.seq (.ops [⟨some 6, none, .mov (.tmp 5)⟩, ⟨some 7, none, .mov (.tmp 0)⟩,
 ⟨some 8, none, .lenSl (.tmp 7)⟩, ⟨some 9, none, .bin .lss false (.tmp 6) (.tmp 8)⟩]) (.cond (.tmp 9) (.skip) (.exit 0))) (.seq (.block 1 (.seq (.ops [⟨some 12, none, .mov (.tmp 0)⟩, ⟨some 13, none, .mov (.tmp 5)⟩, ⟨some
 14, none, .mov (.tmp 1)⟩, ⟨some 15, none, .call 33 [.tmp 14]⟩, ⟨some 16, none, .indexAddr 1 (.tmp 12) (.tmp 13)⟩, ⟨none, none, .store 1 (.tmp 16) (.tmp 15)⟩]) (.ops [⟨some 17, none, .mov (.tmp 1)⟩, ⟨some 18, none, .bin
 .add false (.tmp 17) (.const (.int .i64 1))⟩, ⟨some 1, none, .mov (.tmp 18)⟩]))) (.ops [⟨some 10, none, .mov (.tmp 5)⟩, ⟨some 11, none, .bin .add false (.tmp 10) (.const (.int .i64 1))⟩, ⟨some 5, none, .mov (.tmp
 11)⟩])))))) (.seq (.ops [⟨some 19, none, .mov (.tmp 1)⟩, ⟨some 4, none, .mov (.tmp 19)⟩]) (.ret)))
def lf_laws_markStringS : LF := { np := 2, N := 20, body := c_laws_markStringS, res := [.tmp 4] }
theorem low_laws_markStringS : LowF Tryz.prog Tryz.f15 lf_laws_markStringS := LowF.mk' (by kernel_rfl) (by kernel_rfl) (by kernel_rfl) (by decide)

def c_laws_heldStringS : LC :=
 .seq (.ops [⟨some 4, none, .mov (.const (.int .i64 0))⟩]) (.seq (.seq (.ops [⟨some 5, none, .mov (.const (.int .i64 0))⟩]) (.block 0 (.loop (.seq (.seq (.ops [⟨some 6, none, .mov (.tmp 5)⟩, ⟨some 7, none, .mov (.tmp 0)⟩,
 ⟨some 8, none, .lenSl (.tmp 7)⟩, ⟨some 9, none, .bin .lss false (.tmp 6) (.tmp 8)⟩]) (.cond (.tmp 9) (.skip) (.exit 0))) (.seq (.block 1 (.seq (.seq (.dops [⟨some 12, none, .mov (.tmp 0)⟩, ⟨some 13, none, .mov (.tmp 5)⟩,
 ⟨some 14, none, .indexAddr 1 (.tmp 12) (.tmp 13)⟩, ⟨some 15, none, .load none (.tmp 14)⟩, ⟨some 16, none, .mov (.tmp 1)⟩, ⟨some 17, none, .call 33 [.tmp 16]⟩, ⟨some 18, none, .bin .neq false (.tmp 15) (.tmp 17)⟩]) (.cond
 (.tmp 18) (.seq (.ops [⟨some 4, none, .mov (.const (.int .i64 (-1)))⟩]) (.ret)) (.skip))) (.ops [⟨some 19, none, .mov (.tmp 1)⟩, ⟨some 20, none, .bin .add false (.tmp 19) (.const (.int .i64 1))⟩, ⟨some 1, none, .mov (.tmp
 20)⟩]))) (.ops [⟨some 10, none, .mov (.tmp 5)⟩, ⟨some 11, none, .bin .add false (.tmp 10) (.const (.int .i64 1))⟩, ⟨some 5, none, .mov (.tmp 11)⟩])))))) (.seq (.ops [⟨some 21, none, .mov (.tmp 1)⟩, ⟨some 4, none, .mov
 (.tmp 21)⟩]) (.ret)))
def lf_laws_heldStringS : LF := { np := 2, N := 22, body := c_laws_heldStringS, res := [.tmp 4] }
theorem low_laws_heldStringS : LowF Tryz.prog Tryz.f16 lf_laws_heldStringS := LowF.mk' (by kernel_rfl) (by kernel_rfl) (by kernel_rfl) (by decide)

def c_laws_markNodeS : LC :=
 .seq (.ops [⟨some 4, none, .mov (.const (.int .i64 0))⟩]) (.seq (.seq (.ops [⟨some 5, none, .mov (.const (.int .i64 0))⟩]) (.block 0 (.loop (.seq (.seq (.ops [⟨some 6, none, .mov (.tmp 5)⟩, ⟨some 7, none, .mov (.tmp 0)⟩,
 ⟨some 8, none, .lenSl (.tmp 7)⟩, ⟨some 9, none, .bin .lss false (.tmp 6) (.tmp 8)⟩]) (.cond (.tmp 9) (.skip) (.exit 0))) (.seq (.block 1 (.seq (.ops [⟨some 12, none, .mov (.tmp 0)⟩, ⟨some 13, none, .mov (.tmp 5)⟩, ⟨some
 14, none, .mov (.tmp 1)⟩, ⟨some 15, none, .call 33 [.tmp 14]⟩, ⟨some 16, none, .indexAddr 3 (.tmp 12) (.tmp 13)⟩, ⟨some 17, none, .fieldAddr 0 (.tmp 16)⟩, ⟨none, none, .store 1 (.tmp 17) (.tmp 15)⟩]) (.seq (.ops [⟨some
 18, none, .mov (.tmp 1)⟩, ⟨some 19, none, .bin .add false (.tmp 18) (.const (.int .i64 1))⟩, ⟨some 1, none, .mov (.tmp 19)⟩]) (.seq (.ops [⟨some 20, none, .mov (.tmp 0)⟩, ⟨some 21, none, .mov (.tmp 5)⟩, ⟨some 22, none,
 .indexAddr 3 (.tmp 20) (.tmp 21)⟩, ⟨some 23, none, .fieldAddr 1 (.tmp 22)⟩, ⟨some 24, none, .load none (.tmp 23)⟩, ⟨some 25, none, .mov (.tmp 1)⟩, ⟨some 26, none, .call 15 [.tmp 24, .tmp 25]⟩, ⟨some 1, none, .mov (.tmp
 26)⟩]) (.seq (.ops [⟨some 27, none, .mov (.tmp 0)⟩, ⟨some 28, none, .mov (.tmp 5)⟩, ⟨some 29, none, .mov (.tmp 1)⟩, ⟨some 30, none, .call 33 [.tmp 29]⟩, ⟨some 31, none, .indexAddr 3 (.tmp 27) (.tmp 28)⟩, ⟨some 32, none,
 .fieldAddr 2 (.tmp 31)⟩, ⟨none, none, .store 1 (.tmp 32) (.tmp 30)⟩]) (.ops [⟨some 33, none, .mov (.tmp 1)⟩, ⟨some 34, none, .bin .add false (.tmp 33) (.const (.int .i64 1))⟩, ⟨some 1, none, .mov (.tmp 34)⟩])))))) (.ops
 [⟨some 10, none, .mov (.tmp 5)⟩, ⟨some 11, none, .bin .add false (.tmp 10) (.const (.int .i64 1))⟩, ⟨some 5, none, .mov (.tmp 11)⟩])))))) (.seq (.ops [⟨some 35, none, .mov (.tmp 1)⟩, ⟨some 4, none, .mov (.tmp 35)⟩])
 (.ret)))
def lf_laws_markNodeS : LF := { np := 2, N := 36, body := c_laws_markNodeS, res := [.tmp 4] }
theorem low_laws_markNodeS : LowF Tryz.prog Tryz.f32 lf_laws_markNodeS := LowF.mk' (by kernel_rfl) (by kernel_rfl) (by kernel_rfl) (by decide)

def c_laws_markTree : LC :=
 .seq (.ops [⟨some 2, none, .box 34 (.tmp 0)⟩, ⟨some 4, none, .mov (.const (.int .i64 0))⟩]) (.seq (.ops [⟨some 5, none, .fieldAddr 0 (.tmp 2)⟩, ⟨some 6, none, .load none (.tmp 5)⟩, ⟨some 7, none, .mov (.tmp 1)⟩, ⟨some 8,
 none, .call 32 [.tmp 6, .tmp 7]⟩, ⟨some 1, none, .mov (.tmp 8)⟩]) (.seq (.ops [⟨some 9, none, .mov (.tmp 1)⟩, ⟨some 4, none, .mov (.tmp 9)⟩]) (.ret)))
def lf_laws_markTree : LF := { np := 2, N := 10, body := c_laws_markTree, res := [.tmp 4] }
theorem low_laws_markTree : LowF Tryz.prog Tryz.f13 lf_laws_markTree := LowF.mk' (by kernel_rfl) (by kernel_rfl) (by kernel_rfl) (by decide)

def c_laws_markTable : LC :=
 .seq (.ops [⟨some 2, none, .box 36 (.tmp 0)⟩, ⟨some 4, none, .mov (.const (.int .i64 0))⟩]) (.seq (.ops [⟨some 5, none, .fieldAddr 2 (.tmp 2)⟩, ⟨some 6, none, .load none (.tmp 5)⟩, ⟨some 7, none, .mov (.tmp 1)⟩, ⟨some 8,
 none, .call 15 [.tmp 6, .tmp 7]⟩, ⟨some 1, none, .mov (.tmp 8)⟩]) (.seq (.ops [⟨some 9, none, .fieldAddr 3 (.tmp 2)⟩, ⟨some 10, none, .load none (.tmp 9)⟩, ⟨some 11, none, .mov (.tmp 1)⟩, ⟨some 12, none, .call 15 [.tmp
 10, .tmp 11]⟩, ⟨some 1, none, .mov (.tmp 12)⟩]) (.seq (.ops [⟨some 13, none, .mov (.tmp 1)⟩, ⟨some 4, none, .mov (.tmp 13)⟩]) (.ret))))
def lf_laws_markTable : LF := { np := 2, N := 14, body := c_laws_markTable, res := [.tmp 4] }
theorem low_laws_markTable : LowF Tryz.prog Tryz.f14 lf_laws_markTable := LowF.mk' (by kernel_rfl) (by kernel_rfl) (by kernel_rfl) (by decide)

theorem shs_StringS (xs : List ByteArray) : ∀ e ∈ xs.map cStr, shEl [.str] e := by
  intro e he
  obtain ⟨x, _, q⟩ := List.mem_map.1 he; subst q
  simp only [shEl, shCell, cStr]
  exact ⟨_, _, rfl, ⟨_, rfl⟩, rfl⟩
theorem cntb_StringS (xs : List ByteArray) : cntAcc (cntEl [.str]) (xs.map cStr) ≤ 1 * (szList ByteArray.size) xs := by
  refine cnt_bound (fun x => ?_) xs
  simp only [cntEl, cntCell]
  omega
theorem cnt_StringS (xs : List ByteArray) (hb : (szList ByteArray.size) xs ≤ 1048576) : cntAcc (cntEl [.str]) (xs.map cStr) ≤ 1 * 1048576 := by
  have := cntb_StringS xs
  omega

theorem toStringS_fresh (xs : List ByteArray) (hb : (szList ByteArray.size) xs ≤ 1048576) : FreshCall Tryz.prog 25 [.list 0 1 (xs.map cStr)] (.list 0 1 (xs.map cStr)) (fun a => ∃ l, a = .own l xs.length) := by
  have hx := Nat.le_trans (szList_length (f := ByteArray.size) (xs := xs)) hb
  refine fresh_fn mixed Tryz.func25 low_laws_toStringS rfl (fun h0 => ?_)
  simp (disch := omega) only [lf_laws_toStringS, c_laws_toStringS, go_sem, reduceCtorEq, ↓reduceIte]
  refine ⟨by omega, by omega, ?_⟩
  refine Ex_loop (fun n t h => ∃ k : Nat, t 0 = .list 0 1 (xs.map cStr) ∧ t 3 = .own h0.length xs.length ∧ t 4 = .val (.int .i64 k) ∧ h = h0 ++ [⟨9, 1, fillTo (xs.map cStr) [.val (.string (txt []))] k⟩] ∧ n = xs.length - k ∧ k ≤ xs.length) xs.length ?_ ?_
  · exact ⟨0, rfl, rfl, rfl, by rw [fillTo_zero]; simp, rfl, Nat.zero_le _⟩
  · rintro J hJ n t h ⟨k, t0, t3, t4, rfl, rfl, hk⟩
    have fl : (fillTo (xs.map cStr) [.val (.string (txt []))] k).length = xs.length := by rw [fillTo_length _ _ (by simpa using hk)]; simp
    by_cases hlt : k < xs.length
    · have fg : (fillTo (xs.map cStr) [.val (.string (txt []))] k)[k]? = some [.val (.string (txt []))] := fillTo_get _ _ (by simpa using hlt)
      have fs := fillTo_set' (xs.map cStr) [.val (.string (txt []))] (cStr xs[k]) (k := k) (by rw [List.getElem?_map, List.getElem?_eq_getElem hlt]; rfl)
      simp (disch := omega) only [t0, t3, t4, hlt, fl, fg, Ex_cond, go_sem, Nat.reduceEqDiff, reduceCtorEq, ↓reduceIte, wrap_in]
      try simp (disch := omega) only [fs, go_sem]
      exact ⟨xs.length - (k + 1), by omega, hJ _ _ _ ⟨k + 1, by simp [upd, t0], by simp [upd, t3], by simp [upd], by simp [], rfl, by omega⟩⟩
    · simp (disch := omega) only [t0, t3, t4, hlt, fl, Ex_cond, go_sem, Nat.reduceEqDiff, reduceCtorEq, ↓reduceIte]
      have ff : fillTo (xs.map cStr) [.val (.string (txt []))] k = xs.map cStr := fillTo_all _ _ (by simp; omega)
      rw [ff]
      refine ⟨_, rfl, (FreshB.mkown (lo := h0.length + 1) (hi := h0.length + 1) (FreshLLB.ofVals _ _ _ _ ?_) (by rw [getA0]; rfl) (by simp) (Nat.le_refl _) (Nat.lt_succ_self _) (Nat.le_refl _)).fresh, _, rfl⟩
      intro e he c hc
      obtain ⟨x, _, q⟩ := List.mem_map.1 he; subst q
      simp only [cStr, List.mem_singleton] at hc
      exact ⟨_, hc⟩

theorem markStringS_mk : MarkC Tryz.prog 15 mtext [.str] := by
  refine MarkC.of ?_ ?_
  · intro H k K hK
    refine call_of_fnWp mixed Tryz.func15 low_laws_markStringS (fnWp_of rfl ?_)
    simp (disch := omega) only [lf_laws_markStringS, c_laws_markStringS, go_sem]
    refine Ex_loop (fun n t h => t 0 = .val (.slice none 0 0) ∧ t 1 = .val (.int .i64 k) ∧ t 5 = .val (.int .i64 0) ∧ h = H) 0 ⟨rfl, rfl, rfl, rfl⟩ ?_
    rintro J hJ n t h ⟨t0, t1, t5, rfl⟩
    simp (disch := omega) only [t0, t1, t5, go_sem, Nat.reduceEqDiff, reduceCtorEq, Int.reduceLT, ↓reduceIte]
    exact hK
  · intro l cnt lo hi E rs0 f H0 k K hT hl nd hrl hlo hhi hsh hk hb hK
    refine call_of_fnWp mixed Tryz.func15 low_laws_markStringS (fnWp_of rfl ?_)
    obtain ⟨seg, hseg⟩ : ∃ seg, seg = (rs0.take hi).drop lo := ⟨_, rfl⟩
    rw [← hseg] at hsh hb hK
    have hsl : hi - lo = seg.length := by rw [hseg, List.length_drop, List.length_take]; omega
    have hsn : seg.length ≤ cntAcc (cntEl [.str]) seg := cnt_len (c := cntEl [.str]) (fun e he => by have q := hsh e he; unfold shEl at q; obtain ⟨c, r, rfl, _, _⟩ := q; simp only [cntEl, cntCell]; omega)
    simp (disch := omega) only [lf_laws_markStringS, c_laws_markStringS, go_sem]
    refine Ex_loop (fun n t h => ∃ (i : Nat) (rs : List (List AV)), t 0 = .sub l cnt lo hi ∧ t 1 = .val (.int .i64 (mapAcc (mkEl mtext [.str]) (seg.take i) k).2) ∧ t 5 = .val (.int .i64 i) ∧ MT H0 l E 1 cnt f rs h ∧ n = seg.length - i ∧ i ≤ seg.length ∧ rs.length = cnt ∧ (rs.take hi).drop lo = (mapAcc (mkEl mtext [.str]) (seg.take i) k).1 ++ seg.drop i) seg.length ⟨0, rs0, rfl, rfl, rfl, hT, rfl, Nat.zero_le _, hrl, hseg.symm⟩ ?_
    rintro J hJ n t h ⟨i, rs, t0, t1, t5, hM, rfl, hi1, hrl1, hS⟩
    by_cases hlt : i < seg.length
    · have hA : (mapAcc (mkEl mtext [.str]) (seg.take i) k).1.length = i := by rw [mapAcc_len, List.length_take]; omega
      have hst := acc_step (g := (mkEl mtext [.str])) (k := k) hlt
      have hcn := cnt_take (c := cntEl [.str]) hlt
      have hzz : (mapAcc (mkEl mtext [.str]) (seg.take i) k).2 = k + cntAcc (cntEl [.str]) (seg.take i) := mapAcc_cnt (fun x _ k => mkEl_cnt [.str] x k) k
      have hj4 : (lo : Int) + (i : Int) < (hi : Int) := by omega
      have hj2 := (seg_at hS hA hlt).2.1
      have hsd := hsh _ (List.getElem_mem hlt)
      have hss : ∀ d, ((rs.set (lo + i) d).take hi).drop lo = ((mapAcc (mkEl mtext [.str]) (seg.take i) k).1 ++ [d]) ++ seg.drop (i + 1) := fun d => seg_step hS hA hlt
      clear hS hA
      generalize seg[i] = d at hst hcn hj2 hsd
      obtain ⟨z, hz⟩ : ∃ z, z = (mapAcc (mkEl mtext [.str]) (seg.take i) k).2 := ⟨_, rfl⟩
      rw [← hz] at hst hzz t1
      have hz0 : 0 ≤ z := by omega
      unfold shEl at hsd
      obtain ⟨_, d0, hd0, hc0, hsd⟩ := hsd
      unfold shCell at hc0
      obtain ⟨s0, rfl⟩ := hc0
      unfold shEl at hsd
      subst hsd
      subst hd0
      simp only [cntEl, cntCell, Nat.add_zero] at hcn
      obtain ⟨m, es, e, f2, r1, r2, r3, ho_0, nd2, hl2, hfin⟩ := hM.elem hl nd hj2
      obtain ⟨q0, rfl, ho_1⟩ := ho_0.inv_val
      obtain ⟨rfl, rfl⟩ := ho_1.inv_nil
      have u1 : ∀ r, (h.set l r)[l]? = some r := fun r => List.getElem?_set_self (List.getElem?_eq_some_iff.1 r1).1
      have u2 : ∀ x, (es.set (lo + i) x)[lo + i]? = some x := fun x => List.getElem?_set_self (List.getElem?_eq_some_iff.1 r3).1
      simp (disch := omega) only [t0, t1, t5, hlt, hsl, hlo, r1, r2, go_sem, Nat.reduceEqDiff, reduceCtorEq, ↓reduceIte]
      refine PureCall.call (markText_ok (z) (by omega) (by omega) _) ?_
      simp (disch := omega) only [t1, t5, hj4, r1, r2, r3, go_sem, Nat.reduceEqDiff, ↓reduceIte]
      refine ⟨seg.length - (i + 1), by omega, hJ _ _ _ ⟨i + 1, rs.set (lo + i) _, by simp [upd, t0], by rw [hst]; simp [upd, mkEl, mkCell], by simp [upd], hfin _ _ _ ?_ (by first | exact u1 _ | exact u1 _) ?_ ?_, rfl, by omega, by simpa using hrl1, by rw [hst]; exact hss _⟩⟩
      · simp only [List.length_set]
      · intro x hx
        simp only [List.mem_cons, not_or] at hx
        try rw [List.getElem?_set_ne (Ne.symm hx.1)]
      · simp only [mkEl, mkCell]
        exact ⟨_, (OwnL.mk_val _ (OwnL.mk_nil (Own _ (0 + 1))))⟩
    · obtain ⟨m, es, r1, r2, _⟩ := hM.out
      have e1 : seg.take i = seg := List.take_of_length_le (by omega)
      have e2 : seg.drop i = [] := List.drop_eq_nil_of_le (by omega)
      rw [e1] at t1 hS
      rw [e2, List.append_nil] at hS
      simp (disch := omega) only [t0, t1, t5, hlt, hsl, hlo, r1, r2, go_sem, Nat.reduceEqDiff, reduceCtorEq, ↓reduceIte]
      exact hK _ rs hM hS

theorem heldStringS_hd (es : List (List AV)) (k : Int) (hsh : ∀ e ∈ es, shEl [.str] e) (hk : 0 ≤ k) (hb : k + cntAcc (cntEl [.str]) es ≤ 4611686018427387904) (h : List Row) : PureCall Tryz.prog 16 [.list 0 1 es, .val (.int .i64 k)] h (.val (.int .i64 (hdAcc (hdEl mtext [.str]) es k))) := by
  refine pure_fn mixed Tryz.func16 low_laws_heldStringS rfl rfl ?_ h
  have hsn : es.length ≤ cntAcc (cntEl [.str]) es := cnt_len (c := cntEl [.str]) (fun e he => by have q := hsh e he; unfold shEl at q; obtain ⟨c, r, rfl, _, _⟩ := q; simp only [cntEl, cntCell]; omega)
  simp (disch := omega) only [lf_laws_heldStringS, c_laws_heldStringS, go_sem, Int.reduceNeg]
  refine Ex_loop (fun n t h => ∃ (i : Nat) (z : Int), t 0 = .list 0 1 es ∧ t 1 = .val (.int .i64 z) ∧ t 5 = .val (.int .i64 i) ∧ n = es.length - i ∧ i ≤ es.length ∧ 0 ≤ z ∧ z + cntAcc (cntEl [.str]) (es.drop i) ≤ 4611686018427387904 ∧ hdAcc (hdEl mtext [.str]) es k = hdAcc (hdEl mtext [.str]) (es.drop i) z) es.length ⟨0, k, rfl, rfl, rfl, rfl, Nat.zero_le _, hk, hb, rfl⟩ ?_
  rintro J hJ n t h ⟨i, z, t0, t1, t5, rfl, hi, hz0, hzb, hS⟩
  by_cases hlt : i < es.length
  · rw [hdAcc_at hlt] at hS
    rw [cnt_at hlt] at hzb
    have hsd := hsh _ (List.getElem_mem hlt)
    obtain ⟨d, hd⟩ : ∃ d, es[i] = d := ⟨_, rfl⟩
    rw [hd] at hS hzb hsd
    have hg : es[i]? = some d := by rw [List.getElem?_eq_getElem hlt, hd]
    unfold shEl at hsd
    obtain ⟨_, d0, hd0, hc0, hsd⟩ := hsd
    unfold shCell at hc0
    obtain ⟨s0, rfl⟩ := hc0
    unfold shEl at hsd
    subst hsd
    subst hd0
    simp only [cntEl, cntCell, Nat.add_zero] at hzb
    simp (disch := omega) only [t0, t1, t5, hlt, hg, go_sem, Nat.reduceEqDiff, reduceCtorEq, Int.reduceNeg, ↓reduceIte]
    refine PureCall.q (markText_ok (z) (by omega) (by omega) _) ?_
    by_cases q0 : s0 = mtext (z)
    case neg =>
      simp (disch := omega) only [q0, go_sem, Int.reduceNeg, ↓reduceIte]
      exact resolve_int (by rw [hS]; exact (hdAcc_neg (by simp (disch := first | assumption | omega) only [hdEl_str'])).symm)
    simp (disch := omega) only [t1, t5, q0, go_sem, Nat.reduceEqDiff, Int.reduceNeg, ↓reduceIte]
    exact ⟨es.length - (i + 1), by omega, hJ _ _ _ ⟨i + 1, z + 1, by simp [upd, t0], by simp [upd], by simp [upd], rfl, by omega, by omega, by omega, by rw [hS]; exact hdAcc_pos (by simp (disch := first | assumption | omega) only [hdEl_str, hdEl_nil]) (by omega)⟩⟩
  · simp (disch := omega) only [t0, t1, t5, hlt, go_sem, Nat.reduceEqDiff, reduceCtorEq, Int.reduceNeg, ↓reduceIte]
    exact resolve_int (by rw [hS, List.drop_eq_nil_of_le (by omega)]; rfl)

theorem sh_GNode (x : GNode) : shEl [.str, .list [.str], .str] (GNode.cells x) := by
  simp only [GNode.cells, shEl, shCell]
  exact ⟨_, _, rfl, ⟨_, rfl⟩, ⟨_, _, rfl, ⟨_, rfl, shs_StringS _⟩, ⟨_, _, rfl, ⟨_, rfl⟩, rfl⟩⟩⟩
theorem cntTop_GNode (x : GNode) (hb : GNode.sz x ≤ 1048576) : cntTop [.str, .list [.str], .str] (GNode.cells x) ≤ 3 * 1048576 := by
  have c0 := cntb_StringS (x.Subs)
  have hsz0 : ∀ y : GNode, GNode.sz y = ByteArray.size y.Name + (szList ByteArray.size) y.Subs + ByteArray.size y.Value := fun _ => rfl
  simp only [hsz0] at *
  simp only [GNode.cells, cntTop, cntCell]
  omega

theorem toNode_fresh (x : GNode) (hb : GNode.sz x ≤ 1048576) : FreshCall Tryz.prog 38 [.agg (GNode.cells x)] (.agg (GNode.cells x)) (fun a => ∃ l_Subs, a = .agg [.val (.string x.Name), .own l_Subs (x.Subs).length, .val (.string x.Value)]) := by
  have hsz : GNode.sz x = ByteArray.size x.Name + (szList ByteArray.size) x.Subs + ByteArray.size x.Value := rfl
  refine fresh_fn mixed Tryz.func38 low_laws_toNode rfl (fun h0 => ?_)
  simp (disch := omega) only [lf_laws_toNode, c_laws_toNode, GNode.cells, go_sem, Nat.reduceEqDiff, Nat.reduceAdd, Nat.reduceLeDiff, ↓reduceIte]
  refine toStringS_fresh x.Subs (by omega) _ _ (fun av1 hn1 hf1 hq1 => ?_)
  obtain ⟨l_Subs, rfl⟩ := hq1
  simp (disch := omega) only [go_sem, Nat.reduceEqDiff, Nat.reduceAdd, Nat.reduceLeDiff, ↓reduceIte, post_cell]
  exact ⟨_, rfl, fresh_agg (FreshLB.val _ (FreshLB.cons ((hf1.b.keep fun l q1 q2 => pre3 (t := []) (by simp) q1 q2).widen (by first | omega | (simp; done) | (simp; omega)) (Nat.le_refl _)) (FreshLB.val _ (FreshLB.nil _ _ _)) ⟨(by first | omega | (simp; done) | (simp; omega)), (by first | omega | (simp; done) | (simp; omega))⟩)), l_Subs, rfl⟩

theorem shs_NodeS (xs : List GNode) : ∀ e ∈ xs.map GNode.cells, shEl [.str, .list [.str], .str] e := by
  intro e he
  obtain ⟨x, _, q⟩ := List.mem_map.1 he; subst q
  exact sh_GNode x
theorem cntb_NodeS (xs : List GNode) : cntAcc (cntEl [.str, .list [.str], .str]) (xs.map GNode.cells) ≤ 3 * (szList GNode.sz) xs := by
  refine cnt_bound (fun x => ?_) xs
  have c0 := cntb_StringS (x.Subs)
  have hsz0 : ∀ y : GNode, GNode.sz y = ByteArray.size y.Name + (szList ByteArray.size) y.Subs + ByteArray.size y.Value := fun _ => rfl
  simp only [hsz0] at *
  simp only [GNode.cells, cntEl, cntCell]
  omega
theorem cnt_NodeS (xs : List GNode) (hb : (szList GNode.sz) xs ≤ 1048576) : cntAcc (cntEl [.str, .list [.str], .str]) (xs.map GNode.cells) ≤ 3 * 1048576 := by
  have := cntb_NodeS xs
  omega

theorem toNodeS_fresh (xs : List GNode) (hb : (szList GNode.sz) xs ≤ 1048576) : FreshCall Tryz.prog 24 [.list 0 3 (xs.map GNode.cells)] (.list 0 3 (xs.map GNode.cells)) (fun a => ∃ l, a = .own l xs.length) := by
  have hx := Nat.le_trans (szList_length (f := GNode.sz) (xs := xs)) hb
  refine fresh_fn mixed Tryz.func24 low_laws_toNodeS rfl (fun h0 => ?_)
  simp (disch := omega) only [lf_laws_toNodeS, c_laws_toNodeS, go_sem, reduceCtorEq, ↓reduceIte]
  refine ⟨by omega, by omega, ?_⟩
  refine Ex_loop (fun n t h => ∃ (k : Nat) (done : List (List AV)) (rest : List Row), t 0 = .list 0 3 (xs.map GNode.cells) ∧ t 3 = .own h0.length xs.length ∧ t 4 = .val (.int .i64 k) ∧ h = h0 ++ ⟨60, 3, done ++ List.replicate (xs.length - k) ([.val (.string (txt [])), .val (.slice none 0 0), .val (.string (txt []))] : List AV)⟩ :: rest ∧ n = xs.length - k ∧ k ≤ xs.length ∧ done.length = k ∧ FreshLLB (h0.length + 1) h.length h done ((xs.take k).map GNode.cells)) xs.length ?_ ?_
  · exact ⟨0, [], [], rfl, rfl, rfl, by simp, rfl, Nat.zero_le _, rfl, .nil _ _ _⟩
  · rintro J hJ n t h ⟨k, done, rest, t0, t3, t4, rfl, rfl, hk, hd, hF⟩
    have fl : (done ++ List.replicate (xs.length - k) ([.val (.string (txt [])), .val (.slice none 0 0), .val (.string (txt []))] : List AV)).length = xs.length := by simp; omega
    by_cases hlt : k < xs.length
    · have e1 : xs.length - k = (xs.length - (k + 1)) + 1 := by omega
      have fg : (done ++ List.replicate (xs.length - k) ([.val (.string (txt [])), .val (.slice none 0 0), .val (.string (txt []))] : List AV))[k]? = some [.val (.string (txt [])), .val (.slice none 0 0), .val (.string (txt []))] := by rw [List.getElem?_append_right (by omega), hd, Nat.sub_self, e1]; rfl
      have fs : ∀ c : List AV, (done ++ List.replicate (xs.length - k) ([.val (.string (txt [])), .val (.slice none 0 0), .val (.string (txt []))] : List AV)).set k c = (done ++ [c]) ++ List.replicate (xs.length - (k + 1)) ([.val (.string (txt [])), .val (.slice none 0 0), .val (.string (txt []))] : List AV) := by
        intro c; rw [List.set_append_right _ _ (by omega), hd, Nat.sub_self, e1, List.replicate_succ, List.set_cons_zero, List.append_assoc]; rfl
      simp (disch := omega) only [t0, t3, t4, hlt, GNode.cells, Ex_cond, go_sem, Nat.reduceEqDiff, Nat.reduceAdd, reduceCtorEq, ↓reduceIte]
      refine toNode_fresh xs[k] (by have := szList_mem (f := GNode.sz) (List.getElem_mem hlt); omega) _ _ (fun av hn hf hq => ?_)
      obtain ⟨l_Subs, rfl⟩ := hq
      simp (disch := omega) only [t4, hlt, fl, fg, fs, go_sem, Nat.reduceEqDiff, Nat.reduceAdd, ↓reduceIte, wrap_in]
      refine ⟨xs.length - (k + 1), by omega, hJ _ _ _ ⟨k + 1, done ++ [[.val (.string xs[k].Name), .own l_Subs (xs[k].Subs).length, .val (.string xs[k].Value)]], rest ++ hn, by simp [upd, t0], by simp [upd, t3], by simp [upd], by simp, rfl, by omega, by simp [hd], ?_⟩⟩
      rw [List.take_succ_eq_append_getElem hlt, List.map_append]
      have hz := fresh_round (r' := ⟨60, 3, (done ++ [[.val (.string xs[k].Name), .own l_Subs (xs[k].Subs).length, .val (.string xs[k].Value)]]) ++ List.replicate (xs.length - (k + 1)) ([.val (.string (txt [])), .val (.slice none 0 0), .val (.string (txt []))] : List AV)⟩) hF hf
      first | exact hz | simpa using hz
    · simp (disch := omega) only [t0, t3, t4, hlt, Ex_cond, go_sem, Nat.reduceEqDiff, reduceCtorEq, ↓reduceIte]
      have e1 : xs.length - k = 0 := by omega
      rw [e1, List.replicate_zero, List.append_nil, List.take_of_length_le (by omega)] at hF
      rw [e1, List.replicate_zero, List.append_nil]
      exact ⟨_, rfl, fresh_done hF (by omega), _, rfl⟩

theorem markNodeS_mk : MarkC Tryz.prog 32 mtext [.str, .list [.str], .str] := by
  refine MarkC.of ?_ ?_
  · intro H k K hK
    refine call_of_fnWp mixed Tryz.func32 low_laws_markNodeS (fnWp_of rfl ?_)
    simp (disch := omega) only [lf_laws_markNodeS, c_laws_markNodeS, go_sem]
    refine Ex_loop (fun n t h => t 0 = .val (.slice none 0 0) ∧ t 1 = .val (.int .i64 k) ∧ t 5 = .val (.int .i64 0) ∧ h = H) 0 ⟨rfl, rfl, rfl, rfl⟩ ?_
    rintro J hJ n t h ⟨t0, t1, t5, rfl⟩
    simp (disch := omega) only [t0, t1, t5, go_sem, Nat.reduceEqDiff, reduceCtorEq, Int.reduceLT, ↓reduceIte]
    exact hK
  · intro l cnt lo hi E rs0 f H0 k K hT hl nd hrl hlo hhi hsh hk hb hK
    refine call_of_fnWp mixed Tryz.func32 low_laws_markNodeS (fnWp_of rfl ?_)
    obtain ⟨seg, hseg⟩ : ∃ seg, seg = (rs0.take hi).drop lo := ⟨_, rfl⟩
    rw [← hseg] at hsh hb hK
    have hsl : hi - lo = seg.length := by rw [hseg, List.length_drop, List.length_take]; omega
    have hsn : seg.length ≤ cntAcc (cntEl [.str, .list [.str], .str]) seg := cnt_len (c := cntEl [.str, .list [.str], .str]) (fun e he => by have q := hsh e he; unfold shEl at q; obtain ⟨c, r, rfl, _, _⟩ := q; simp only [cntEl, cntCell]; omega)
    simp (disch := omega) only [lf_laws_markNodeS, c_laws_markNodeS, go_sem]
    refine Ex_loop (fun n t h => ∃ (i : Nat) (rs : List (List AV)), t 0 = .sub l cnt lo hi ∧ t 1 = .val (.int .i64 (mapAcc (mkEl mtext [.str, .list [.str], .str]) (seg.take i) k).2) ∧ t 5 = .val (.int .i64 i) ∧ MT H0 l E 3 cnt f rs h ∧ n = seg.length - i ∧ i ≤ seg.length ∧ rs.length = cnt ∧ (rs.take hi).drop lo = (mapAcc (mkEl mtext [.str, .list [.str], .str]) (seg.take i) k).1 ++ seg.drop i) seg.length ⟨0, rs0, rfl, rfl, rfl, hT, rfl, Nat.zero_le _, hrl, hseg.symm⟩ ?_
    rintro J hJ n t h ⟨i, rs, t0, t1, t5, hM, rfl, hi1, hrl1, hS⟩
    by_cases hlt : i < seg.length
    · have hA : (mapAcc (mkEl mtext [.str, .list [.str], .str]) (seg.take i) k).1.length = i := by rw [mapAcc_len, List.length_take]; omega
      have hst := acc_step (g := (mkEl mtext [.str, .list [.str], .str])) (k := k) hlt
      have hcn := cnt_take (c := cntEl [.str, .list [.str], .str]) hlt
      have hzz : (mapAcc (mkEl mtext [.str, .list [.str], .str]) (seg.take i) k).2 = k + cntAcc (cntEl [.str, .list [.str], .str]) (seg.take i) := mapAcc_cnt (fun x _ k => mkEl_cnt [.str, .list [.str], .str] x k) k
      have hj4 : (lo : Int) + (i : Int) < (hi : Int) := by omega
      have hj2 := (seg_at hS hA hlt).2.1
      have hsd := hsh _ (List.getElem_mem hlt)
      have hss : ∀ d, ((rs.set (lo + i) d).take hi).drop lo = ((mapAcc (mkEl mtext [.str, .list [.str], .str]) (seg.take i) k).1 ++ [d]) ++ seg.drop (i + 1) := fun d => seg_step hS hA hlt
      clear hS hA
      generalize seg[i] = d at hst hcn hj2 hsd
      obtain ⟨z, hz⟩ : ∃ z, z = (mapAcc (mkEl mtext [.str, .list [.str], .str]) (seg.take i) k).2 := ⟨_, rfl⟩
      rw [← hz] at hst hzz t1
      have hz0 : 0 ≤ z := by omega
      unfold shEl at hsd
      obtain ⟨_, d0, hd0, hc0, hsd⟩ := hsd
      unfold shCell at hc0
      obtain ⟨s0, rfl⟩ := hc0
      unfold shEl at hsd
      obtain ⟨_, d1, hd1, hc1, hsd⟩ := hsd
      unfold shCell at hc1
      obtain ⟨e1, rfl, hc1⟩ := hc1
      unfold shEl at hsd
      obtain ⟨_, d2, hd2, hc2, hsd⟩ := hsd
      unfold shCell at hc2
      obtain ⟨s2, rfl⟩ := hc2
      unfold shEl at hsd
      subst hsd
      subst hd2
      subst hd1
      subst hd0
      simp only [cntEl, cntCell, Nat.add_zero] at hcn
      obtain ⟨m, es, e, f2, r1, r2, r3, ho_0, nd2, hl2, hfin⟩ := hM.elem hl nd hj2
      obtain ⟨q0, rfl, ho_1⟩ := ho_0.inv_val
      obtain ⟨c1, q1, g1, w1, rfl, rfl, hw1, ho_2⟩ := ho_1.inv_cons
      obtain ⟨q2, rfl, ho_3⟩ := ho_2.inv_val
      obtain ⟨rfl, rfl⟩ := ho_3.inv_nil
      simp only [List.append_nil] at nd2 hl2
      have nd_1 : g1.Nodup := by first | exact nd2 | exact nd2.1 | exact nd2.2.1 | (simp_all; done)
      have hl_1 : l ∉ g1 := fun q => hl2 (by simp [q])
      have u1 : ∀ r, (h.set l r)[l]? = some r := fun r => List.getElem?_set_self (List.getElem?_eq_some_iff.1 r1).1
      have u2 : ∀ x, (es.set (lo + i) x)[lo + i]? = some x := fun x => List.getElem?_set_self (List.getElem?_eq_some_iff.1 r3).1
      simp (disch := omega) only [t0, t1, t5, hlt, hsl, hlo, r1, r2, go_sem, Nat.reduceEqDiff, reduceCtorEq, ↓reduceIte]
      refine PureCall.call (markText_ok (z) (by omega) (by omega) _) ?_
      simp (disch := omega) only [t0, t1, t5, hj4, r1, r2, r3, u1, u2, List.length_set, go_sem, Nat.reduceEqDiff, Nat.reduceAdd, Nat.reduceLeDiff, reduceCtorEq, ↓reduceIte]
      refine markStringS_mk _ c1 e1 g1 _ (z + 1) _ (hw1.keep fun x hx => ?_) nd_1 hc1 (by omega) (by omega) (fun H1 m1 x1 y1 v1 => ?_)
      · first | rfl | exact List.getElem?_set_ne (by rintro rfl; exact hl_1 hx)
      have hq1 : (mapAcc (mkEl mtext [.str]) e1 (z + 1)).2 = z + 1 + (cntAcc (cntEl [.str]) e1 : Nat) := mapAcc_cnt (fun x _ k => mkEl_cnt _ x k) _
      have p1 := (y1 l hl_1).trans (by first | exact u1 _ | exact r1)
      have un1 : ∀ r, (H1.set l r)[l]? = some r := fun r => List.getElem?_set_self (List.getElem?_eq_some_iff.1 p1).1
      simp (disch := omega) only [t0, t5, go_sem, Nat.reduceEqDiff, reduceCtorEq, ↓reduceIte]
      refine PureCall.call (markText_ok ((mapAcc (mkEl mtext [.str]) e1 (z + 1)).2) (by omega) (by omega) _) ?_
      simp (disch := omega) only [t5, hj4, r2, u2, List.length_set, List.set_set, p1, go_sem, Nat.reduceEqDiff, Nat.reduceAdd, ↓reduceIte]
      refine ⟨seg.length - (i + 1), by omega, hJ _ _ _ ⟨i + 1, rs.set (lo + i) _, by simp [upd, t0], by rw [hst]; simp [upd, mkEl, mkCell], by simp [upd], hfin _ _ _ ?_ (by first | exact un1 _ | exact p1) ?_ ?_, rfl, by omega, by simpa using hrl1, by rw [hst]; exact hss _⟩⟩
      · simp only [List.length_set, x1]
      · intro x hx
        simp only [List.mem_cons, not_or, List.append_nil] at hx
        try rw [List.getElem?_set_ne (Ne.symm hx.1)]
        rw [y1 x (by intro hq; first | (simp_all; done) | exact nd.2.2 _ hq _ hx rfl | exact nd.2.2 _ hx _ hq rfl | grind)]
        try rw [List.getElem?_set_ne (Ne.symm hx.1)]
      · simp only [mkEl, mkCell]
        exact ⟨_, (OwnL.mk_val _ (OwnL.mk_list (v1.keep fun x hx => by first | rfl | ((try rw [List.getElem?_set_ne (by rintro rfl; exact hl_1 hx)]))) (OwnL.mk_val _ (OwnL.mk_nil (Own _ (0 + 1))))))⟩
    · obtain ⟨m, es, r1, r2, _⟩ := hM.out
      have e1 : seg.take i = seg := List.take_of_length_le (by omega)
      have e2 : seg.drop i = [] := List.drop_eq_nil_of_le (by omega)
      rw [e1] at t1 hS
      rw [e2, List.append_nil] at hS
      simp (disch := omega) only [t0, t1, t5, hlt, hsl, hlo, r1, r2, go_sem, Nat.reduceEqDiff, reduceCtorEq, ↓reduceIte]
      exact hK _ rs hM hS

theorem sh_GTree (x : GTree) : shEl [.list [.str, .list [.str], .str]] (GTree.cells x) := by
  simp only [GTree.cells, shEl, shCell]
  exact ⟨_, _, rfl, ⟨_, rfl, shs_NodeS _⟩, rfl⟩
theorem cntTop_GTree (x : GTree) (hb : GTree.sz x ≤ 1048576) : cntTop [.list [.str, .list [.str], .str]] (GTree.cells x) ≤ 3 * 1048576 := by
  have c0 := cntb_NodeS (x.Nodes)
  have hsz0 : ∀ y : GTree, GTree.sz y = (szList GNode.sz) y.Nodes := fun _ => rfl
  simp only [hsz0] at *
  simp only [GTree.cells, cntTop, cntCell]
  omega

theorem toTree_fresh (x : GTree) (hb : GTree.sz x ≤ 1048576) : FreshCall Tryz.prog 7 [.agg (GTree.cells x)] (.agg (GTree.cells x)) (fun a => ∃ l_Nodes, a = .agg [.own l_Nodes (x.Nodes).length]) := by
  have hsz : GTree.sz x = (szList GNode.sz) x.Nodes := rfl
  refine fresh_fn mixed Tryz.func7 low_laws_toTree rfl (fun h0 => ?_)
  simp (disch := omega) only [lf_laws_toTree, c_laws_toTree, GTree.cells, go_sem, Nat.reduceEqDiff, Nat.reduceAdd, ↓reduceIte]
  refine toNodeS_fresh x.Nodes (by omega) _ _ (fun av1 hn1 hf1 hq1 => ?_)
  obtain ⟨l_Nodes, rfl⟩ := hq1
  simp (disch := omega) only [go_sem, Nat.reduceEqDiff, ↓reduceIte, post_cell]
  exact ⟨_, rfl, fresh_agg (FreshLB.cons ((hf1.b.keep fun l q1 q2 => pre3 (t := []) (by simp) q1 q2).widen (by first | omega | (simp; done) | (simp; omega)) (Nat.le_refl _)) (FreshLB.nil _ _ _) ⟨(by first | omega | (simp; done) | (simp; omega)), (by first | omega | (simp; done) | (simp; omega))⟩), l_Nodes, rfl⟩

theorem markTree_mk : MarkA Tryz.prog 13 mtext [.list [.str, .list [.str], .str]] := by
  intro m cs ds f H k K ho_0 nd hsh hk hb hK
  unfold shEl at hsh
  obtain ⟨_, d0, hd0, hc0, hsh⟩ := hsh
  unfold shCell at hc0
  obtain ⟨e0, rfl, hc0⟩ := hc0
  unfold shEl at hsh
  subst hsh
  subst hd0
  simp only [cntTop, cntCell, Nat.add_zero] at hb
  have hlt : ∀ x ∈ f, x < H.length := fun x hx => by
    obtain ⟨row, _, _, _, q, _⟩ := OwnL.inner (fun a r f ho => Own.inner ho) ho_0 x hx
    exact (List.getElem?_eq_some_iff.1 q).1
  obtain ⟨c0, q0, g0, w0, rfl, rfl, hw0, ho_1⟩ := ho_0.inv_cons
  obtain ⟨rfl, rfl⟩ := ho_1.inv_nil
  simp only [List.append_nil] at nd hlt
  have nd_0 : g0.Nodup := by first | exact nd | exact nd.1 | exact nd.2.1 | (simp_all; done)
  have hl_0 : ∀ x ∈ g0, x < H.length := fun x hx => hlt x (by simp [hx])
  have cc0 := hw0.cell_list
  simp only [AV.cell, Value.oneCell'] at cc0
  refine call_of_fnWp mixed Tryz.func13 low_laws_markTree (fnWp_of rfl ?_)
  simp (disch := omega) only [lf_laws_markTree, c_laws_markTree, cc0, go_sem, Nat.reduceEqDiff, ↓reduceIte]
  refine markNodeS_mk _ c0 e0 g0 _ (k) _ (hw0.keep fun x hx => ?_) nd_0 hc0 (by omega) (by omega) (fun H1 m1 x1 y1 v1 => ?_)
  · exact List.getElem?_append_left (hl_0 x hx)
  have hq0 : (mapAcc (mkEl mtext [.str, .list [.str], .str]) e0 (k)).2 = k + (cntAcc (cntEl [.str, .list [.str], .str]) e0 : Nat) := mapAcc_cnt (fun x _ k => mkEl_cnt _ x k) _
  have p1 := (y1 H.length (fun hq => by have := hl_0 _ hq; omega)).trans (getA0 _ _)
  simp (disch := omega) only [go_sem, ↓reduceIte]
  have hfr : ∀ x, x < H.length → x ∉ (g0) → H1[x]? = H[x]? := by
    intro x hx hxf
    try simp only [List.mem_append, not_or] at hxf
    rw [y1 x (by intro hq; first | (simp_all; done) | exact nd.2.2 _ hq _ hx rfl | exact nd.2.2 _ hx _ hq rfl | grind)]
    exact List.getElem?_append_left hx
  have hfin := hK H1 (by simp only [x1, List.length_append]; omega) (fun x hx hxf => hfr x hx (by simpa using hxf)) (by simp only [mkTop, mkCell]; exact ⟨_, (OwnL.mk_list (v1.keep fun x hx => by rfl) (OwnL.mk_nil (Own _ (0 + 1))))⟩)
  simp only [mkTop, mkCell] at hfin
  exact hfin

theorem sh_GTable (x : GTable) : shEl [.str, .str, .list [.str], .list [.str]] (GTable.cells x) := by
  simp only [GTable.cells, shEl, shCell]
  exact ⟨_, _, rfl, ⟨_, rfl⟩, ⟨_, _, rfl, ⟨_, rfl⟩, ⟨_, _, rfl, ⟨_, rfl, shs_StringS _⟩, ⟨_, _, rfl, ⟨_, rfl, shs_StringS _⟩, rfl⟩⟩⟩⟩
theorem cntTop_GTable (x : GTable) (hb : GTable.sz x ≤ 1048576) : cntTop [.str, .str, .list [.str], .list [.str]] (GTable.cells x) ≤ 4 * 1048576 := by
  have c0 := cntb_StringS (x.Columns)
  have c1 := cntb_StringS (x.Indexes)
  have hsz0 : ∀ y : GTable, GTable.sz y = ByteArray.size y.Name + ByteArray.size y.Global + (szList ByteArray.size) y.Columns + (szList ByteArray.size) y.Indexes := fun _ => rfl
  simp only [hsz0] at *
  simp only [GTable.cells, cntTop, cntCell]
  omega

theorem toTable_fresh (x : GTable) (hb : GTable.sz x ≤ 1048576) : FreshCall Tryz.prog 8 [.agg (GTable.cells x)] (.agg (GTable.cells x)) (fun a => ∃ l_Columns l_Indexes, a = .agg [.val (.string x.Name), .val (.string x.Global), .own l_Columns (x.Columns).length, .own l_Indexes (x.Indexes).length]) := by
  have hsz : GTable.sz x = ByteArray.size x.Name + ByteArray.size x.Global + (szList ByteArray.size) x.Columns + (szList ByteArray.size) x.Indexes := rfl
  refine fresh_fn mixed Tryz.func8 low_laws_toTable rfl (fun h0 => ?_)
  simp (disch := omega) only [lf_laws_toTable, c_laws_toTable, GTable.cells, go_sem, Nat.reduceEqDiff, Nat.reduceAdd, Nat.reduceLeDiff, ↓reduceIte]
  refine toStringS_fresh x.Columns (by omega) _ _ (fun av1 hn1 hf1 hq1 => ?_)
  obtain ⟨l_Columns, rfl⟩ := hq1
  simp (disch := omega) only [go_sem, Nat.reduceEqDiff, Nat.reduceAdd, Nat.reduceLeDiff, ↓reduceIte]
  refine toStringS_fresh x.Indexes (by omega) _ _ (fun av2 hn2 hf2 hq2 => ?_)
  obtain ⟨l_Indexes, rfl⟩ := hq2
  simp (disch := omega) only [go_sem, Nat.reduceEqDiff, Nat.reduceAdd, ↓reduceIte, post_cell]
  exact ⟨_, rfl, fresh_agg (FreshLB.val _ (FreshLB.val _ (FreshLB.cons ((hf1.b.keep fun l q1 q2 => pre3 (t := hn2) (by simp) q1 q2).widen (by first | omega | (simp; done) | (simp; omega)) (Nat.le_refl _)) (FreshLB.cons ((hf2.b.keep fun l q1 q2 => pre3 (t := []) (by simp) q1 q2).widen (by first | omega | (simp; done) | (simp; omega)) (Nat.le_refl _)) (FreshLB.nil _ _ _) ⟨(by first | omega | (simp; done) | (simp; omega)), (by first | omega | (simp; done) | (simp; omega))⟩) ⟨(by first | omega | (simp; done) | (simp; omega)), (by first | omega | (simp; done) | (simp; omega))⟩))), l_Columns, l_Indexes, rfl⟩

theorem markTable_mk : MarkA Tryz.prog 14 mtext [.str, .str, .list [.str], .list [.str]] := by
  intro m cs ds f H k K ho_0 nd hsh hk hb hK
  unfold shEl at hsh
  obtain ⟨_, d0, hd0, hc0, hsh⟩ := hsh
  unfold shCell at hc0
  obtain ⟨s0, rfl⟩ := hc0
  unfold shEl at hsh
  obtain ⟨_, d1, hd1, hc1, hsh⟩ := hsh
  unfold shCell at hc1
  obtain ⟨s1, rfl⟩ := hc1
  unfold shEl at hsh
  obtain ⟨_, d2, hd2, hc2, hsh⟩ := hsh
  unfold shCell at hc2
  obtain ⟨e2, rfl, hc2⟩ := hc2
  unfold shEl at hsh
  obtain ⟨_, d3, hd3, hc3, hsh⟩ := hsh
  unfold shCell at hc3
  obtain ⟨e3, rfl, hc3⟩ := hc3
  unfold shEl at hsh
  subst hsh
  subst hd3
  subst hd2
  subst hd1
  subst hd0
  simp only [cntTop, cntCell, Nat.add_zero] at hb
  have hlt : ∀ x ∈ f, x < H.length := fun x hx => by
    obtain ⟨row, _, _, _, q, _⟩ := OwnL.inner (fun a r f ho => Own.inner ho) ho_0 x hx
    exact (List.getElem?_eq_some_iff.1 q).1
  obtain ⟨q0, rfl, ho_1⟩ := ho_0.inv_val
  obtain ⟨q1, rfl, ho_2⟩ := ho_1.inv_val
  obtain ⟨c2, q2, g2, w2, rfl, rfl, hw2, ho_3⟩ := ho_2.inv_cons
  obtain ⟨c3, q3, g3, w3, rfl, rfl, hw3, ho_4⟩ := ho_3.inv_cons
  obtain ⟨rfl, rfl⟩ := ho_4.inv_nil
  simp only [List.nodup_append, List.mem_append, List.append_nil] at nd hlt
  have nd_2 : g2.Nodup := by first | exact nd | exact nd.1 | exact nd.2.1 | (simp_all; done)
  have hl_2 : ∀ x ∈ g2, x < H.length := fun x hx => hlt x (by simp [hx])
  have cc2 := hw2.cell_list
  simp only [AV.cell, Value.oneCell'] at cc2
  have nd_3 : g3.Nodup := by first | exact nd | exact nd.1 | exact nd.2.1 | (simp_all; done)
  have hl_3 : ∀ x ∈ g3, x < H.length := fun x hx => hlt x (by simp [hx])
  have cc3 := hw3.cell_list
  simp only [AV.cell, Value.oneCell'] at cc3
  refine call_of_fnWp mixed Tryz.func14 low_laws_markTable (fnWp_of rfl ?_)
  simp (disch := omega) only [lf_laws_markTable, c_laws_markTable, cc2, cc3, go_sem, Nat.reduceEqDiff, Nat.reduceAdd, ↓reduceIte]
  refine markStringS_mk _ c2 e2 g2 _ (k) _ (hw2.keep fun x hx => ?_) nd_2 hc2 (by omega) (by omega) (fun H1 m1 x1 y1 v1 => ?_)
  · exact List.getElem?_append_left (hl_2 x hx)
  have hq2 : (mapAcc (mkEl mtext [.str]) e2 (k)).2 = k + (cntAcc (cntEl [.str]) e2 : Nat) := mapAcc_cnt (fun x _ k => mkEl_cnt _ x k) _
  have p1 := (y1 H.length (fun hq => by have := hl_2 _ hq; omega)).trans (getA0 _ _)
  simp (disch := omega) only [p1, go_sem, Nat.reduceEqDiff, ↓reduceIte]
  refine markStringS_mk _ c3 e3 g3 _ ((mapAcc (mkEl mtext [.str]) e2 (k)).2) _ (hw3.keep fun x hx => ?_) nd_3 hc3 (by omega) (by omega) (fun H2 m2 x2 y2 v2 => ?_)
  · rw [y1 x (by intro hq; first | (simp_all; done) | exact nd.2.2 _ hq _ hx rfl | exact nd.2.2 _ hx _ hq rfl | grind)]; exact List.getElem?_append_left (hl_3 x hx)
  have hq3 : (mapAcc (mkEl mtext [.str]) e3 ((mapAcc (mkEl mtext [.str]) e2 (k)).2)).2 = (mapAcc (mkEl mtext [.str]) e2 (k)).2 + (cntAcc (cntEl [.str]) e3 : Nat) := mapAcc_cnt (fun x _ k => mkEl_cnt _ x k) _
  have p2 := (y2 H.length (fun hq => by have := hl_3 _ hq; omega)).trans (by first | exact getA0 _ _ | exact p1)
  simp (disch := omega) only [go_sem, ↓reduceIte]
  have hfr : ∀ x, x < H.length → x ∉ (g2 ++ g3) → H2[x]? = H[x]? := by
    intro x hx hxf
    try simp only [List.mem_append, not_or] at hxf
    rw [y2 x (by intro hq; first | (simp_all; done) | exact nd.2.2 _ hq _ hx rfl | exact nd.2.2 _ hx _ hq rfl | grind)]
    rw [y1 x (by intro hq; first | (simp_all; done) | exact nd.2.2 _ hq _ hx rfl | exact nd.2.2 _ hx _ hq rfl | grind)]
    exact List.getElem?_append_left hx
  have hfin := hK H2 (by simp only [x2, x1, List.length_append]; omega) (fun x hx hxf => hfr x hx (by simpa using hxf)) (by simp only [mkTop, mkCell]; exact ⟨_, (OwnL.mk_val _ (OwnL.mk_val _ (OwnL.mk_list (v1.keep fun x hx => by rw [y2 x (by intro hq; first | (simp_all; done) | exact nd.2.2 _ hq _ hx rfl | exact nd.2.2 _ hx _ hq rfl | grind)]) (OwnL.mk_list (v2.keep fun x hx => by rfl) (OwnL.mk_nil (Own _ (0 + 1)))))))⟩)
  simp only [mkTop, mkCell] at hfin
  exact hfin

end Go.Proofs.YtkddmakjmjmokaaGreatDoor
