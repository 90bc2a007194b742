/-
  Contracts of functions of this program, over abstract values. Conditions: as each theorem says.
-/
import Derived.Test.YtkddmakjmjmokaaGreatDoorLwFnExactKeysBy
import Derived.Test.YtkddmakjmjmokaaGreatDoorDoor
import Derived.Test.YtkddmakjmjmokaaGreatDoorTie
import Derived.Test.YtkddmakjmjmokaaGreatDoorCards
namespace Go.Proofs.YtkddmakjmjmokaaGreatDoor
open Go.AW
open Go.ChangeShapes Go.WideShapes Go.ChangeAt Go.RowKit
open Go.ChangeMaps (open_string shut_string)
set_option linter.unusedVariables false
set_option linter.unusedSimpArgs false

set_option maxRecDepth 100000 in
theorem FnExactKeysBy_lifted (os : Os) (started : os.Started) (H : Type) (enc : TypeId × Value → H) :
    ReturnsInHanded {} Tryz.checked os 3 .any (fun w args => (Rows.fnExactKeysBySpec.pre enc Tryz.prog Tryz.f3 Rows.fnExactKeysByRow.domain false w args ∧ laidMetH Tryz.prog laid5 w) ∧ sizedMet enc Tryz.prog Tryz.f3 (OpenSpec.ofChange Rows.fnExactKeysBySpec) false w args) (Rows.fnExactKeysBySpec.post enc Tryz.prog Tryz.f3 false true false false) := by
  refine lift_shaped (s := Rows.fnExactKeysBySpec) started (by kernel_rfl) Tryz.func3
    (ChangeSpec.witness_shaped (enc := enc) (C := Tryz.checked) (os := os) (X := fun w _ => laidMetH Tryz.prog laid5 w) false (doorW os) #[.agg #[.slice none 0 0], .agg #[.string ⟨#[]⟩, .string ⟨#[]⟩, .slice none 0 0, .slice none 0 0], .string ⟨#[]⟩, .string ⟨#[]⟩] 8 rfl (World.shaped_of_RefB (by kernel_rfl) (by kernel_rfl)) (by kernel_rfl) (by kernel_rfl) (by kernel_rfl) (door_met os _)) ?_
  intro W base args ds gs before hval0 hW hL hSh
  have hval : ∀ (j : Nat) t v, Tryz.f3.params[j]? = some t → args[j]? = some v → Value.okWide Tryz.prog W .any base t v := hval0
  have hW' := hW
  obtain ⟨p, q, hA0, hV, rfl, hfz, hnd⟩ := hW
  have hA : DataW.TrodAll enc Tryz.prog W 0 (fun _ => true) true Tryz.f3.params.toList args.toList ds p := hA0
  rw [Tryz.params3] at hA hval
  obtain ⟨v0, vs0, d0, ds0, p0, q0, hargs, rfl, rfl, h0, r0⟩ := trodAll_cons hA
  obtain ⟨v1, vs1, d1, ds1, p1, q1, rfl, rfl, rfl, h1, r1⟩ := trodAll_cons r0
  obtain ⟨v2, vs2, d2, ds2, p2, q2, rfl, rfl, rfl, h2, r2⟩ := trodAll_cons r1
  obtain ⟨v3, vs3, d3, ds3, p3, q3, rfl, rfl, rfl, h3, r3⟩ := trodAll_cons r2
  obtain ⟨rfl, rfl, rfl⟩ := trodAll_nil r3
  obtain rfl : args = #[v0, v1, v2, v3] := by cases args; simp_all
  obtain ⟨rfl, rfl⟩ := trodVars_none hV
  have k0 := h0
  have lt0 : ∀ x ∈ p0, x.block < W.heap.size := by obtain ⟨m, hm⟩ := k0; exact DataW.trod_lt m _ _ _ hm
  obtain ⟨_, _, hu0, _⟩ := fieldOf_spec fld_24_0
  obtain ⟨cs0, rfl, _⟩ := okWide_struct hu0 (hval 0 24 v0 rfl rfl)
  obtain ⟨x0, wf0, rep0⟩ := rep_agg (rd_24 W) h0
  have k1 := h1
  have lt1 : ∀ x ∈ p1, x.block < W.heap.size := by obtain ⟨m, hm⟩ := k1; exact DataW.trod_lt m _ _ _ hm
  obtain ⟨_, _, hu1, _⟩ := fieldOf_spec fld_27_0
  obtain ⟨cs1, rfl, _⟩ := okWide_struct hu1 (hval 1 27 v1 rfl rfl)
  obtain ⟨x1, wf1, rep1⟩ := rep_agg (rd_27 W) h1
  have k2 := h2
  have lt2 : ∀ x ∈ p2, x.block < W.heap.size := by obtain ⟨m, hm⟩ := k2; exact DataW.trod_lt m _ _ _ hm
  obtain ⟨s2, rfl, _, _, _⟩ := open_string (show Tryz.prog.underlying 9 = some .string by kernel_rfl) (hval 2 9 v2 rfl rfl) h2
  obtain ⟨x2, wf2, rep2⟩ := rep_one (fun x : ByteArray => .val (.string x)) (fun _ => rfl) (rd_9 W) rfl k2
  have k3 := h3
  have lt3 : ∀ x ∈ p3, x.block < W.heap.size := by obtain ⟨m, hm⟩ := k3; exact DataW.trod_lt m _ _ _ hm
  obtain ⟨s3, rfl, _, _, _⟩ := open_string (show Tryz.prog.underlying 9 = some .string by kernel_rfl) (hval 3 9 v3 rfl rfl) h3
  obtain ⟨x3, wf3, rep3⟩ := rep_one (fun x : ByteArray => .val (.string x)) (fun _ => rfl) (rd_9 W) rfl k3
  clear hA0 hval0
  refine (law_calls (FnExactKeysBy_law x0 x1 x2 x3 wf0 wf1 wf2 wf3) (glob_of_laid hL hSh) (RepL_cons rep0 (RepL_cons rep1 (RepL_cons rep2 (RepL_cons rep3 (RepL_nil _ rfl)))))).mono fun e W' ⟨he, bel⟩ => ?_
  subst he
  exact ⟨_, rfl, _, _, _, [], _, [], hW', trodAll_mk1 (shut_bool (show Tryz.prog.underlying 4 = some .bool by kernel_rfl) _), trodAll_cons_mk (Below.trod laidOut (by kernel_rfl) (of_decide_eq_true (by kernel_rfl)) k0 bel lt0) (trodAll_cons_mk (Below.trod laidOut (by kernel_rfl) (of_decide_eq_true (by kernel_rfl)) k1 bel lt1) (trodAll_cons_mk (Below.trod laidOut (by kernel_rfl) (of_decide_eq_true (by kernel_rfl)) k2 bel lt2) (trodAll_cons_mk (Below.trod laidOut (by kernel_rfl) (of_decide_eq_true (by kernel_rfl)) k3 bel lt3) (trodAll_mk0)))), rfl, bel.frame _, fun h => by cases h⟩

theorem FnExactKeysBy_over : Rows.fnExactKeysByRow.holds Tryz.pinned (OpenSpec.ofChange Rows.fnExactKeysBySpec) :=
  OpenClaim.holds_of_wide 3 Tryz.f3 rfl rfl rfl rfl rfl rfl rfl ⟨rfl, rfl, rfl, rfl, rfl⟩ rfl rfl rfl rfl rfl (by kernel_rfl) Tryz.func3 (by kernel_rfl)
    (of_decide_eq_true (by kernel_rfl)) (by unfold Func.isWrapper; first | (rw [if_pos (by decide +kernel)]; kernel_rfl) | (rw [if_neg (by decide +kernel)]; exact ⟨rfl, rfl⟩))
    (fun os started H enc _ => FnExactKeysBy_lifted os started H enc)


theorem FnExactKeysBy_proved : Rows.FnExactKeysByCardSaid :=
  Claim7.holds_tied_plain_at .later [] [.data, .data, .data, .data, .pinned] true Rows.fnExactKeysByCard.stood.harness false
    FnExactKeysBy_over (fun _ h => by cases h) (by kernel_rfl) (fun _ h => by cases h) fnExactKeysBy_row_tie rfl ⟨rfl, rfl⟩ (by kernel_rfl) rfl
    (fun f fn hf hfn => by
      obtain rfl : f = 3 := Option.some.inj ((show Tryz.prog.funcNamed "loop.example/g00874/laws.FnExactKeysBy" = some 3 by kernel_rfl).symm.trans hf) |>.symm
      obtain rfl : fn = Tryz.f3 := (Option.some.inj (Tryz.func3.symm.trans hfn)).symm
      exact ⟨by kernel_rfl, fun j t ht => by
        have hall : ∀ t ∈ Tryz.f3.params.toList, Tryz.prog.wantsStandIn t = false := by rw [Tryz.params3]; exact of_decide_eq_true (by kernel_rfl)
        exact hall t (by have := Array.mem_of_getElem? ht; simpa using this)⟩)
    (by kernel_rfl)


end Go.Proofs.YtkddmakjmjmokaaGreatDoor
