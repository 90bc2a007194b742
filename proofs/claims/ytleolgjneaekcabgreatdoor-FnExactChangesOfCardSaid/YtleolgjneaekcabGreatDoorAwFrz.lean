/-
  AW, part 29: calls that read the call's own rows and give plain values; what rows come to.
-/
import Derived.Test.YtleolgjneaekcabGreatDoorAwTxt
namespace Go.AW
open Go.RowKit (Below)

/-- Values that name no memory. -/
def AV.solid : AV → Bool
  | .val _ => true
  | .tup cs => cs.all fun | .val _ => true | _ => false
  | _ => false
theorem solidL_any {S S' : Sit} : ∀ {cs : List AV} {xs : List Value}, (cs.all fun | .val _ => true | _ => false) = true → RepL S cs xs → RepL S' cs xs
  | [], xs, _, r => by simpa [RepL] using r
  | c :: cs, xs, h, r => by
    simp only [List.all_cons, Bool.and_eq_true] at h
    simp only [RepL] at r ⊢
    obtain ⟨v, q, e, r1, r2⟩ := r
    refine ⟨v, q, e, ?_, solidL_any h.2 r2⟩
    cases c with
    | val u => simpa [Rep] using r1
    | _ => simp at h
theorem solid_any {S S' : Sit} {a : AV} {x : Value} (h : a.solid = true) (r : Rep S a x) : Rep S' a x := by
  cases a with
  | val v => simpa [Rep] using r
  | tup cs =>
    simp only [Rep] at r ⊢
    obtain ⟨vs, e, r⟩ := r
    exact ⟨vs, e, solidL_any h r⟩
  | _ => simp [AV.solid] at h
/-- A call that reads the call's own rows, and gives plain values. -/
theorem frozenR {P : Program} {f : FuncId} {as rs : List AV} {H : List Row} {r : AV} {n : Nat} (hs : r.solid = true) (hc : ∀ h, PureCall P f rs h r) (ha : as.mapM (resolve H n) = some rs) : PureCall P f as H r := by
  intro K hk S w vals hm hgl hr
  have hm0 : Models (S.shut w) [] w := ⟨hm.shut, rfl, by simp [Sit.shut], by simp [Sit.shut]⟩
  refine (hc [] (fun q _ => q = r) rfl (S.shut w) w vals hm0 (hgl.shut hm) (mapM_rep hm ha hr)).mono ?_
  rintro e w' ⟨v', av, S1, h1, rfl, st, hm1, rv, rfl⟩
  have b : Below w.heap.size w w' := ⟨st.os, st.tape, st.output, st.size, fun k hk => st.block k hk (by rintro ⟨l, i, q, _⟩; simp [Sit.shut] at q)⟩
  exact ⟨v', _, S, H, rfl, Step.below b, hm.below b, solid_any hs rv, hk⟩
/-- Rows of flat elements come to lists. -/
theorem res_own {H : List Row} {l k n : Nat} {r : Row} (hl : H[l]? = some r) (hk : r.es.length = k) (hf : ∀ e ∈ r.es, e.all AV.flat = true) : resolve H (n + 2) (.own l k) = some (.list 0 r.sz r.es) := by
  have e : resolve H (n + 2) (.own l k) = match H[l]? with
      | some r => if r.es.length = k then (r.es.mapM fun (e : List AV) => e.mapM (resolve H (n + 1))).map (.list 0 r.sz) else none
      | none => none := rfl
  rw [e, hl]
  simp only [hk, if_true]
  rw [mapM_flatL hf]
  rfl
theorem res_sub {H : List Row} {l k lo hi n : Nat} {r : Row} (hl : H[l]? = some r) (hk : r.es.length = k) (hf : ∀ e ∈ r.es, e.all AV.flat = true) : resolve H (n + 2) (.sub l k lo hi) = some (.list 0 r.sz ((r.es.take hi).drop lo)) := by
  have e : resolve H (n + 2) (.sub l k lo hi) = match H[l]? with
      | some r => if r.es.length = k then (((r.es.take hi).drop lo).mapM fun (e : List AV) => e.mapM (resolve H (n + 1))).map (.list 0 r.sz) else none
      | none => none := rfl
  rw [e, hl]
  simp only [hk, if_true]
  rw [mapM_flatL (fun e he => hf e (List.mem_of_mem_take (List.mem_of_mem_drop he)))]
  rfl
theorem plain_fn (g : FuncId) (caps : List AV) (h : caps.all AV.flat = true) : (AV.fn g [] caps).plain = true := by simp only [AV.plain, h]; rfl
theorem plain_list (tk sz : Nat) (es : List (List AV)) : (AV.list tk sz es).plain = true := rfl
theorem all_two {p : List AV → Prop} (x y : List AV) : (∀ e ∈ [x, y], p e) = (p x ∧ p y) := by simp
attribute [go_sem] all_two
end Go.AW
