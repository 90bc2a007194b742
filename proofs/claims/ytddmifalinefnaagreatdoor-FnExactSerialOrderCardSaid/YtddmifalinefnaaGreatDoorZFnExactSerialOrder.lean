/-
 Contracts of functions. Conditions: as each theorem says.
-/
import Derived.Test.YtddmifalinefnaaGreatDoorLwFnExactSerialOrder
import Derived.Test.YtddmifalinefnaaGreatDoorDoor
import Derived.Test.YtddmifalinefnaaGreatDoorTie
import Derived.Test.YtddmifalinefnaaGreatDoorCards
namespace Go.Proofs.YtddmifalinefnaaGreatDoor
open Go.AW
open Go.ChangeShapes Go.WideShapes Go.ChangeAt Go.RowKit
open Go.ChangeMaps (open_string shut_string)
set_option linter.unusedVariables false
set_option linter.unusedSimpArgs false
set_option maxRecDepth 100000 in
theorem FnExactSerialOrder_lifted (os : Os) (started : os.Started) (H : Type) (enc : TypeId × Value → H) :
 ReturnsInHanded {} Tryz.checked os 4 .any (fun w args => (Rows.fnExactSerialOrderSpec.pre enc Tryz.prog Tryz.f4 Rows.fnExactSerialOrderRow.domain false w args ∧ laidMetH Tryz.prog gW_ w) ∧ sizedMet enc Tryz.prog Tryz.f4 (OpenSpec.ofChange Rows.fnExactSerialOrderSpec) false w args) (Rows.fnExactSerialOrderSpec.post enc Tryz.prog Tryz.f4 false true false false) := by
 refine oA_ (s := Rows.fnExactSerialOrderSpec) started (by kernel_rfl) Tryz.func4
  (ChangeSpec.witness_shaped (enc := enc) (C := Tryz.checked) (os := os) (X := fun w _ => laidMetH Tryz.prog gW_ w) false (doorW os) #[.slice none 0 0] 8 rfl (World.shaped_of_RefB (by kernel_rfl) (by kernel_rfl)) (by kernel_rfl) (by kernel_rfl) (by kernel_rfl) (sn_ os _)) ?_
 intro W base args ds gs before hval0 hW hL hSh
 have hval : ∀ (j : Nat) t v, Tryz.f4.params[j]? = some t → args[j]? = some v → Value.okWide Tryz.prog W .any base t v := hval0
 have hW' := hW
 obtain ⟨p, q, hA0, hV, rfl, hfz, hnd⟩ := hW
 have hA : DataW.TrodAll enc Tryz.prog W 0 (fun _ => true) true Tryz.f4.params.toList args.toList ds p := hA0
 rw [Tryz.params4] at hA hval
 obtain ⟨v0, vs0, d0, ds0, p0, q0, hargs, rfl, rfl, h0, r0⟩ := trodAll_cons hA
 obtain ⟨rfl, rfl, rfl⟩ := trodAll_nil r0
 obtain rfl : args = #[v0] := by cases args; simp_all
 obtain ⟨rfl, rfl⟩ := trodVars_none hV
 have k0 := h0
 have lt0 : ∀ x ∈ p0, x.block < W.heap.size := by obtain ⟨m, hm⟩ := k0; exact DataW.trod_lt m _ _ _ hm
 obtain ⟨a0, len0, cap0, rfl⟩ := okWide_slice (show Tryz.prog.underlying 22 = some (.slice 44) by kernel_rfl) (hval 0 22 v0 rfl rfl)
 obtain ⟨x0, wf0, rep0⟩ := tS_ (fun x : List ab_ => .list 0 6 (x.map ab_.cells)) (fun _ => rfl) (xe_ W) rfl h0
 clear hA0 hval0
 refine (q4_ (FnExactSerialOrder_law x0 wf0) (nA_ hL hSh) (qK_ rep0 (jQ_ _ rfl))).mono fun e W' ⟨he, bel⟩ => ?_
 subst he
 exact ⟨_, rfl, _, _, _, [], _, [], hW', trodAll_mk1 (shut_bool (show Tryz.prog.underlying 4 = some .bool by kernel_rfl) _), trodAll_cons_mk (Below.trod tw_ (by kernel_rfl) (of_decide_eq_true (by kernel_rfl)) k0 bel lt0) (trodAll_mk0), rfl, bel.frame _, fun h => by cases h⟩
theorem FnExactSerialOrder_over : Rows.fnExactSerialOrderRow.holds Tryz.pinned (OpenSpec.ofChange Rows.fnExactSerialOrderSpec) :=
 OpenClaim.holds_of_wide 4 Tryz.f4 rfl rfl rfl rfl rfl rfl rfl ⟨rfl, rfl, rfl, rfl, rfl⟩ rfl rfl rfl rfl rfl (by kernel_rfl) Tryz.func4 (by kernel_rfl)
  (of_decide_eq_true (by kernel_rfl)) (by unfold Func.isWrapper; first | (rw [if_pos (by decide +kernel)]; kernel_rfl) | (rw [if_neg (by decide +kernel)]; exact ⟨rfl, rfl⟩))
  (fun os started H enc _ => FnExactSerialOrder_lifted os started H enc)
theorem FnExactSerialOrder_proved : Rows.FnExactSerialOrderCardSaid :=
 Claim7.holds_tied_plain_at .later [] [.data, .data, .data, .data, .pinned] true Rows.fnExactSerialOrderCard.stood.harness false
  FnExactSerialOrder_over (fun _ h => by cases h) (by kernel_rfl) (fun _ h => by cases h) fnExactSerialOrder_row_tie rfl ⟨rfl, rfl⟩ (by kernel_rfl) rfl
  (fun f fn hf hfn => by
    obtain rfl : f = 4 := Option.some.inj ((show Tryz.prog.funcNamed "loop.example/g00874/laws.FnExactSerialOrder" = some 4 by kernel_rfl).symm.trans hf) |>.symm
    obtain rfl : fn = Tryz.f4 := (Option.some.inj (Tryz.func4.symm.trans hfn)).symm
    exact ⟨by kernel_rfl, fun j t ht => by
     have hall : ∀ t ∈ Tryz.f4.params.toList, Tryz.prog.wantsStandIn t = false := by rw [Tryz.params4]; exact of_decide_eq_true (by kernel_rfl)
     exact hall t (by have := Array.mem_of_getElem? ht; simpa using this)⟩)
  (by kernel_rfl)
end Go.Proofs.YtddmifalinefnaaGreatDoor
