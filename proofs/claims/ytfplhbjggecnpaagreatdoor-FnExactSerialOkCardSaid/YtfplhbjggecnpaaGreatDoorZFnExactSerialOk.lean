/-
 Contracts of functions of this program, over abstract values. Conditions: as each theorem says.
-/
import Derived.Test.YtfplhbjggecnpaaGreatDoorLwFnExactSerialOk
import Derived.Test.YtfplhbjggecnpaaGreatDoorDoor
import Derived.Test.YtfplhbjggecnpaaGreatDoorTie
import Derived.Test.YtfplhbjggecnpaaGreatDoorCards
namespace Go.Proofs.YtfplhbjggecnpaaGreatDoor
open Go.AW
open Go.ChangeShapes Go.WideShapes Go.ChangeAt Go.RowKit
open Go.ChangeMaps (open_string shut_string)
set_option linter.unusedVariables false
set_option linter.unusedSimpArgs false
set_option maxRecDepth 100000 in
theorem FnExactSerialOk_lifted (os : Os) (started : os.Started) (H : Type) (enc : TypeId × Value → H) :
 ReturnsInHanded {} Tryz.checked os 6 .any (fun w args => (Rows.fnExactSerialOkSpec.pre enc Tryz.prog Tryz.f6 Rows.fnExactSerialOkRow.domain false w args ∧ laidMetH Tryz.prog ia_ w) ∧ sizedMet enc Tryz.prog Tryz.f6 (OpenSpec.ofChange Rows.fnExactSerialOkSpec) false w args) (Rows.fnExactSerialOkSpec.post enc Tryz.prog Tryz.f6 false true false false) := by
 refine qn_ (s := Rows.fnExactSerialOkSpec) started (by kernel_rfl) Tryz.func6
  (ChangeSpec.witness_shaped (enc := enc) (C := Tryz.checked) (os := os) (X := fun w _ => laidMetH Tryz.prog ia_ w) false (doorW os) #[.agg #[.slice none 0 0], .slice none 0 0, .agg #[.slice none 0 0]] 8 rfl (World.shaped_of_RefB (by kernel_rfl) (by kernel_rfl)) (by kernel_rfl) (by kernel_rfl) (by kernel_rfl) (tv_ os _)) ?_
 intro W base args ds gs before hval0 hW hL hSh
 have hval : ∀ (j : Nat) t v, Tryz.f6.params[j]? = some t → args[j]? = some v → Value.okWide Tryz.prog W .any base t v := hval0
 have hW' := hW
 obtain ⟨p, q, hA0, hV, rfl, hfz, hnd⟩ := hW
 have hA : DataW.TrodAll enc Tryz.prog W 0 (fun _ => true) true Tryz.f6.params.toList args.toList ds p := hA0
 rw [Tryz.params6] at hA hval
 obtain ⟨v0, vs0, d0, ds0, p0, q0, hargs, rfl, rfl, h0, r0⟩ := trodAll_cons hA
 obtain ⟨v1, vs1, d1, ds1, p1, q1, rfl, rfl, rfl, h1, r1⟩ := trodAll_cons r0
 obtain ⟨v2, vs2, d2, ds2, p2, q2, rfl, rfl, rfl, h2, r2⟩ := trodAll_cons r1
 obtain ⟨rfl, rfl, rfl⟩ := trodAll_nil r2
 obtain rfl : args = #[v0, v1, v2] := by cases args; simp_all
 obtain ⟨rfl, rfl⟩ := trodVars_none hV
 have k0 := h0
 have lt0 : ∀ x ∈ p0, x.block < W.heap.size := by obtain ⟨m, hm⟩ := k0; exact DataW.trod_lt m _ _ _ hm
 obtain ⟨_, _, hu0, _⟩ := bl_ i7_
 obtain ⟨cs0, rfl, _⟩ := okWide_struct hu0 (hval 0 24 v0 rfl rfl)
 obtain ⟨x0, wf0, rep0⟩ := qs_ (vF_ W) h0
 have k1 := h1
 have lt1 : ∀ x ∈ p1, x.block < W.heap.size := by obtain ⟨m, hm⟩ := k1; exact DataW.trod_lt m _ _ _ hm
 obtain ⟨a1, len1, cap1, rfl⟩ := okWide_slice (show Tryz.prog.underlying 41 = some (.slice 89) by kernel_rfl) (hval 1 41 v1 rfl rfl)
 obtain ⟨x1, wf1, rep1⟩ := xL_ (fun x : List aj_ => .list 0 2 (x.map aj_.cells)) (fun _ => rfl) (Dp_ W) rfl h1
 have k2 := h2
 have lt2 : ∀ x ∈ p2, x.block < W.heap.size := by obtain ⟨m, hm⟩ := k2; exact DataW.trod_lt m _ _ _ hm
 obtain ⟨_, _, hu2, _⟩ := bl_ i7_
 obtain ⟨cs2, rfl, _⟩ := okWide_struct hu2 (hval 2 24 v2 rfl rfl)
 obtain ⟨x2, wf2, rep2⟩ := qs_ (vF_ W) h2
 clear hA0 hval0
 refine (td_ (FnExactSerialOk_law x0 x1 x2 wf0 wf1 wf2) (oI_ hL hSh) (j4_ rep0 (j4_ rep1 (j4_ rep2 (hI_ _ rfl))))).mono fun e W' ⟨he, bel⟩ => ?_
 subst he
 exact ⟨_, rfl, _, _, _, [], _, [], hW', trodAll_mk1 (shut_bool (show Tryz.prog.underlying 4 = some .bool by kernel_rfl) _), trodAll_cons_mk (Below.trod mL_ (by kernel_rfl) (of_decide_eq_true (by kernel_rfl)) k0 bel lt0) (trodAll_cons_mk (Below.trod mL_ (by kernel_rfl) (of_decide_eq_true (by kernel_rfl)) k1 bel lt1) (trodAll_cons_mk (Below.trod mL_ (by kernel_rfl) (of_decide_eq_true (by kernel_rfl)) k2 bel lt2) (trodAll_mk0))), rfl, bel.frame _, fun h => by cases h⟩
theorem FnExactSerialOk_over : Rows.fnExactSerialOkRow.holds Tryz.pinned (OpenSpec.ofChange Rows.fnExactSerialOkSpec) :=
 OpenClaim.holds_of_wide 6 Tryz.f6 rfl rfl rfl rfl rfl rfl rfl ⟨rfl, rfl, rfl, rfl, rfl⟩ rfl rfl rfl rfl rfl (by kernel_rfl) Tryz.func6 (by kernel_rfl)
  (of_decide_eq_true (by kernel_rfl)) (by unfold Func.isWrapper; first | (rw [if_pos (by decide +kernel)]; kernel_rfl) | (rw [if_neg (by decide +kernel)]; exact ⟨rfl, rfl⟩))
  (fun os started H enc _ => FnExactSerialOk_lifted os started H enc)
theorem FnExactSerialOk_proved : Rows.FnExactSerialOkCardSaid :=
 Claim7.holds_tied_plain_at .later [] [.data, .data, .data, .data, .pinned] true Rows.fnExactSerialOkCard.stood.harness false
  FnExactSerialOk_over (fun _ h => by cases h) (by kernel_rfl) (fun _ h => by cases h) fnExactSerialOk_row_tie rfl ⟨rfl, rfl⟩ (by kernel_rfl) rfl
  (fun f fn hf hfn => by
    obtain rfl : f = 6 := Option.some.inj ((show Tryz.prog.funcNamed "loop.example/g00874/laws.FnExactSerialOk" = some 6 by kernel_rfl).symm.trans hf) |>.symm
    obtain rfl : fn = Tryz.f6 := (Option.some.inj (Tryz.func6.symm.trans hfn)).symm
    exact ⟨by kernel_rfl, fun j t ht => by
     have hall : ∀ t ∈ Tryz.f6.params.toList, Tryz.prog.wantsStandIn t = false := by rw [Tryz.params6]; exact of_decide_eq_true (by kernel_rfl)
     exact hall t (by have := Array.mem_of_getElem? ht; simpa using this)⟩)
  (by kernel_rfl)
end Go.Proofs.YtfplhbjggecnpaaGreatDoor
