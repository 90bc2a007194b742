/-
 Contracts of functions. Conditions: as each theorem says.
-/
import Derived.Test.YtodgohgdnmifaaaGreatDoorLwFnExactDropAll
import Derived.Test.YtodgohgdnmifaaaGreatDoorDoor
import Derived.Test.YtodgohgdnmifaaaGreatDoorTie
import Derived.Test.YtodgohgdnmifaaaGreatDoorCards
namespace Go.Proofs.YtodgohgdnmifaaaGreatDoor
open Go.AW
open Go.ChangeShapes Go.WideShapes Go.ChangeAt Go.RowKit
open Go.ChangeMaps (open_string shut_string)
set_option linter.unusedVariables false
set_option linter.unusedSimpArgs false
set_option maxRecDepth 100000 in
theorem FnExactDropAll_lifted (os : Os) (started : os.Started) (H : Type) (enc : TypeId × Value → H) :
 ReturnsInHanded {} Tryz.checked os 6 .any (fun w args => (Rows.fnExactDropAllSpec.pre enc Tryz.prog Tryz.f6 Rows.fnExactDropAllRow.domain false w args ∧ laidMetH Tryz.prog hG_ w) ∧ sizedMet enc Tryz.prog Tryz.f6 (OpenSpec.ofChange Rows.fnExactDropAllSpec) false w args) (Rows.fnExactDropAllSpec.post enc Tryz.prog Tryz.f6 false true false false) := by
 refine oL_ (s := Rows.fnExactDropAllSpec) started (by kernel_rfl) Tryz.func6
  (ChangeSpec.witness_shaped (enc := enc) (C := Tryz.checked) (os := os) (X := fun w _ => laidMetH Tryz.prog hG_ w) false (doorW os) #[.agg #[.slice none 0 0, .slice none 0 0], .int .i64 0] 8 rfl (World.shaped_of_RefB (by kernel_rfl) (by kernel_rfl)) (by kernel_rfl) (by kernel_rfl) (by kernel_rfl) (sY_ os _)) ?_
 intro W base args ds gs before hval0 hW hL hSh
 have hval : ∀ (j : Nat) t v, Tryz.f6.params[j]? = some t → args[j]? = some v → Value.okWide Tryz.prog W .any base t v := hval0
 have hW' := hW
 obtain ⟨p, q, hA0, hV, rfl, hfz, hnd⟩ := hW
 have hA : DataW.TrodAll enc Tryz.prog W 0 (fun _ => true) true Tryz.f6.params.toList args.toList ds p := hA0
 rw [Tryz.params6] at hA hval
 obtain ⟨v0, vs0, d0, ds0, p0, q0, hargs, rfl, rfl, h0, r0⟩ := trodAll_cons hA
 obtain ⟨v1, vs1, d1, ds1, p1, q1, rfl, rfl, rfl, h1, r1⟩ := trodAll_cons r0
 obtain ⟨rfl, rfl, rfl⟩ := trodAll_nil r1
 obtain rfl : args = #[v0, v1] := by cases args; simp_all
 obtain ⟨rfl, rfl⟩ := trodVars_none hV
 have k0 := h0
 have lt0 : ∀ x ∈ p0, x.block < W.heap.size := by obtain ⟨m, hm⟩ := k0; exact DataW.trod_lt m _ _ _ hm
 obtain ⟨_, _, hu0, _⟩ := bL_ kN_
 obtain ⟨cs0, rfl, _⟩ := okWide_struct hu0 (hval 0 25 v0 rfl rfl)
 obtain ⟨x0, wf0, rep0⟩ := ut_ (x7_ W) h0
 have k1 := h1
 have lt1 : ∀ x ∈ p1, x.block < W.heap.size := by obtain ⟨m, hm⟩ := k1; exact DataW.trod_lt m _ _ _ hm
 obtain ⟨s1, rfl, _, _, _⟩ := open_int (show Tryz.prog.underlying 2 = some (.int .i64) by kernel_rfl) (hval 1 2 v1 rfl rfl) h1
 obtain ⟨x1, wf1, rep1⟩ := ux_ (fun x : Int => .val (.int .i64 x)) (fun _ => rfl) (n0_ W) rfl k1
 clear hA0 hval0
 refine (q3_ (FnExactDropAll_law x0 x1 wf0 wf1) (n4_ hL hSh) (mI_ rep0 (mI_ rep1 (iG_ _ rfl)))).mono fun e W' ⟨he, bel⟩ => ?_
 subst he
 exact ⟨_, rfl, _, _, _, [], _, [], hW', trodAll_mk1 (shut_bool (show Tryz.prog.underlying 4 = some .bool by kernel_rfl) _), trodAll_cons_mk (Below.trod o9_ (by kernel_rfl) (of_decide_eq_true (by kernel_rfl)) k0 bel lt0) (trodAll_cons_mk (Below.trod o9_ (by kernel_rfl) (of_decide_eq_true (by kernel_rfl)) k1 bel lt1) (trodAll_mk0)), rfl, bel.frame _, fun h => by cases h⟩
theorem FnExactDropAll_over : Rows.fnExactDropAllRow.holds Tryz.pinned (OpenSpec.ofChange Rows.fnExactDropAllSpec) :=
 OpenClaim.holds_of_wide 6 Tryz.f6 rfl rfl rfl rfl rfl rfl rfl ⟨rfl, rfl, rfl, rfl, rfl⟩ rfl rfl rfl rfl rfl (by kernel_rfl) Tryz.func6 (by kernel_rfl)
  (of_decide_eq_true (by kernel_rfl)) (by unfold Func.isWrapper; first | (rw [if_pos (by decide +kernel)]; kernel_rfl) | (rw [if_neg (by decide +kernel)]; exact ⟨rfl, rfl⟩))
  (fun os started H enc _ => FnExactDropAll_lifted os started H enc)
theorem FnExactDropAll_proved : Rows.FnExactDropAllCardSaid :=
 Claim7.holds_tied_plain_at .later [] [.data, .data, .data, .data, .pinned] true Rows.fnExactDropAllCard.stood.harness false
  FnExactDropAll_over (fun _ h => by cases h) (by kernel_rfl) (fun _ h => by cases h) fnExactDropAll_row_tie rfl ⟨rfl, rfl⟩ (by kernel_rfl) rfl
  (fun f fn hf hfn => by
    obtain rfl : f = 6 := Option.some.inj ((show Tryz.prog.funcNamed "loop.example/g00874/laws.FnExactDropAll" = some 6 by kernel_rfl).symm.trans hf) |>.symm
    obtain rfl : fn = Tryz.f6 := (Option.some.inj (Tryz.func6.symm.trans hfn)).symm
    exact ⟨by kernel_rfl, fun j t ht => by
     have hall : ∀ t ∈ Tryz.f6.params.toList, Tryz.prog.wantsStandIn t = false := by rw [Tryz.params6]; exact of_decide_eq_true (by kernel_rfl)
     exact hall t (by have := Array.mem_of_getElem? ht; simpa using this)⟩)
  (by kernel_rfl)
end Go.Proofs.YtodgohgdnmifaaaGreatDoor
