/-
 Contracts of functions. Conditions: as each theorem says.
-/
import Derived.Test.YtddmifalinefnaaGreatDoorShelfB
import Derived.Test.YtddmifalinefnaaGreatDoorShelfF
import Derived.Test.YtddmifalinefnaaGreatDoorPlEdges
import Derived.Test.YtddmifalinefnaaGreatDoorBase
import Derived.Test.YtddmifalinefnaaGreatDoorAwC
import Derived.StillTailTactics
import Derived.WalkKit
import Derived.WalkSmall
import Derived.Sort.Grow
namespace Go.Proofs.YtddmifalinefnaaGreatDoor
open Go.AW
open Go.Shelf Go.RowKit Go.Lib
set_option linter.unusedVariables false
set_option linter.unusedSimpArgs false
set_option linter.unnecessarySimpa false
open List
set_option maxRecDepth 4000
section
open Go.Sort
set_option maxHeartbeats 4000000
set_option maxRecDepth 100000
theorem al1 (W : World) (a b c d : Value) (T : Nat) : ((W.alloc (.cells #[a, b] T)).alloc (.cells #[c, d] T)).drew.cell? { block := W.heap.size, off := 0 } = some a :=
 (World.cell?_alloc_old _ _ _ (by show W.heap.size ≠ (W.heap.push _).size; rw [Array.size_push]; omega)).trans (cell_two_new W a b T 0 a rfl)
theorem al2 (W : World) (a b c d : Value) (T : Nat) : ((W.alloc (.cells #[a, b] T)).alloc (.cells #[c, d] T)).drew.cell? { block := W.heap.size, off := 1 } = some b :=
 (World.cell?_alloc_old _ _ _ (by show W.heap.size ≠ (W.heap.push _).size; rw [Array.size_push]; omega)).trans (cell_two_new W a b T 1 b rfl)
theorem al3 (W : World) (a b c d : Value) (T : Nat) : ((W.alloc (.cells #[a, b] T)).alloc (.cells #[c, d] T)).drew.cell? { block := W.heap.size + 1, off := 0 } = some c := by
 have := cell_two_new (W.alloc (.cells #[a, b] T)) c d T 0 c rfl
 have e : (W.alloc (.cells #[a, b] T)).heap.size = W.heap.size + 1 := Array.size_push ..
 rw [e] at this
 exact this
theorem al4 (W : World) (a b c d : Value) (T : Nat) : ((W.alloc (.cells #[a, b] T)).alloc (.cells #[c, d] T)).drew.cell? { block := W.heap.size + 1, off := 1 } = some d := by
 have := cell_two_new (W.alloc (.cells #[a, b] T)) c d T 1 d rfl
 have e : (W.alloc (.cells #[a, b] T)).heap.size = W.heap.size + 1 := Array.size_push ..
 rw [e] at this
 exact this
theorem orC (b : Nat) (A B : Int) (w : World) (h0 : w.cell? { block := b, off := 0 } = some (.int .i64 A)) (h1 : w.cell? { block := b, off := 1 } = some (.int .i64 B)) :
 Calls Tryz.prog 50 #[.slice (some { block := b, off := 0 }) 2 2] w fun e w' => e = .returned (.int .i64 (if A ≠ 0 then A else B)) ∧ w' = w := by
 by_cases hA : A = 0
 ·subst hA
  by_cases hB : B = 0
  ·subst hB
   go_enter Tryz.func50, Tryz.ntmps50
   go_wp2
   refine wp_loop_rounds 3 ?_
   rw [rounds_succ]
   go_wp2
   rw [rounds_succ]
   go_wp2
   rw [rounds_succ]
   go_wp2
   (try simp only [Exit.inBlock, Exit.then])
   go_wp2
   go_ret
   exact ⟨rfl, rfl⟩
  ·rw [if_neg (by simp)]
   go_enter Tryz.func50, Tryz.ntmps50
   go_wp2
   refine wp_loop_rounds 3 ?_
   rw [rounds_succ]
   go_wp2
   rw [rounds_succ]
   go_wp2
   go_ret
   exact ⟨rfl, rfl⟩
 ·rw [if_pos hA]
  go_enter Tryz.func50, Tryz.ntmps50
  go_wp2
  refine wp_loop_rounds 3 ?_
  rw [rounds_succ]
  go_wp2
  go_ret
  exact ⟨rfl, rfl⟩
theorem wS_ (x y : Int × Int) (W : World) : Calls Tryz.prog 49 #[.agg #[.int .i64 x.1, .int .i64 x.2], .agg #[.int .i64 y.1, .int .i64 y.2]] W fun e w' => e = .returned (.int .i64 (if Lib.compareInt x.1 y.1 ≠ 0 then Lib.compareInt x.1 y.1 else Lib.compareInt x.2 y.2)) ∧ ∃ q os', w' = grow (W.drewN q) os' := by
 have hc1 := fun (w : World) => Tryz.cmp_Compare_int x.1 y.1 w
 have hc2 := fun (w : World) => Tryz.cmp_Compare_int x.2 y.2 w
 generalize Lib.compareInt x.1 y.1 = A at hc1 ⊢
 generalize Lib.compareInt x.2 y.2 = B at hc2 ⊢
 have hor := fun b w => orC b A B w
 generalize (if A ≠ 0 then A else B) = R at hor ⊢
 go_enter Tryz.func49, Tryz.ntmps49
 go_wp2_with fail
 generalize hW2 : World.alloc (World.alloc W _) _ = W2
 have c1 := al1 W (.int .i64 x.1) (.int .i64 x.2) (.int .i64 y.1) (.int .i64 y.2) 53
 have c2 := al2 W (.int .i64 x.1) (.int .i64 x.2) (.int .i64 y.1) (.int .i64 y.2) 53
 have c3 := al3 W (.int .i64 x.1) (.int .i64 x.2) (.int .i64 y.1) (.int .i64 y.2) 53
 have c4 := al4 W (.int .i64 x.1) (.int .i64 x.2) (.int .i64 y.1) (.int .i64 y.2) 53
 rw [hW2] at c1 c2 c3 c4
 go_still_tail 10, (by kernel_rfl)
 change wpStill _ _ W2.drew _ _ _
 generalize hW3 : W2.drew = W3 at c1 c2 c3 c4 ⊢
 repeat still_step
 still_call (hc1 _)
 repeat still_step
 still_call (hc2 _)
 refine wpStill_nil ?_
 have h0 := cell_two_new W3 (.int .i64 A) (.int .i64 B) 3 0 _ rfl
 have h1 := cell_two_new W3 (.int .i64 A) (.int .i64 B) 3 1 _ rfl
 have hor := hor W3.heap.size _ h0 h1
 go_wp2_with (go_at_call 50; refine hor.mono ?_; rintro e w' ⟨rfl, rfl⟩)
 go_ret
 subst hW3 hW2
 refine ⟨rfl, 1, #[.cells #[.int .i64 x.1, .int .i64 x.2] 53, .cells #[.int .i64 y.1, .int .i64 y.2] 53, .cells #[.int .i64 A, .int .i64 B] 3], ?_⟩
 rfl
end
def nY_ (x y : Int × Int) : Int := if Lib.compareInt x.1 y.1 ≠ 0 then Lib.compareInt x.1 y.1 else Lib.compareInt x.2 y.2
theorem iU_ (x y : Int × Int) : ltOf nY_ x y = ltE x y := by
 rw [Bool.eq_iff_iff, c0_]
 unfold ltOf nY_ Lib.compareInt
 by_cases h1 : x.1 < y.1
 ·simp [h1]
 ·by_cases h2 : y.1 < x.1
  ·simp [h1, h2]; omega
  ·have e : x.1 = y.1 := by omega
   by_cases h3 : x.2 < y.2
   ·simp [e, h3]
   ·by_cases h4 : y.2 < x.2
    ·simp [e, h3, h4]
    ·simp [e, h3, h4]
theorem x4_ : Go.Sort.SWO (ltOf nY_) where
 irrefl x := by rw [iU_, ← Bool.not_eq_true, c0_]; omega
 trans x y z h1 h2 := by rw [iU_, c0_] at *; omega
 ntrans x y z h1 h2 := by rw [iU_, ← Bool.not_eq_true, c0_] at *; omega
theorem pb_ (blk off cap : Nat) (ps : List (Int × Int)) (w : World) (hH : Go.Sort.HoldsK dZ_ 2 w blk off ps.toArray) (hblk : blk < w.heap.size) (hsz : ps.length < 4611686018427387904) :
 Calls Tryz.prog 48 #[.slice (some ⟨blk, off, none⟩) ps.length cap, .func (.func 49) #[] #[]] w fun e w' => e = .returned (.tuple #[]) ∧ ∃ n os, w' = Go.Sort.grow (Go.Sort.putRowK dZ_ 2 (Go.Sort.ahead w n) blk off (ps.mergeSort leE).toArray) os := by
 have eg : ∀ args w, (callFunc 49 args).run Tryz.prog w = .ok (.enter 49 args) w := enters_of Tryz.func49 (by kernel_rfl) rfl
 have h := AnyQ.slices_SortFunc_total Tryz.sortF 2 Tryz.isAgg53 Tryz.sizeOf53 dZ_ (fun _ => rfl) (fun x v hv => by simp [dZ_] at hv; rcases hv with rfl | rfl <;> rfl) nY_ x4_ 49 #[] blk off cap ps.toArray w eg (fun _ _ _ _ x y => wS_ x y _) hH hblk (by simpa using hsz)
  (fun x y h1 h2 => by
    rw [iU_, ← Bool.not_eq_true, c0_] at h1 h2
    exact Prod.ext (by omega) (by omega))
 have e : (fun x y : Int × Int => !(ltOf nY_) y x) = leE := by
  funext x y; rw [iU_]; rfl
 rw [e] at h
 refine Calls.mono (show Calls Tryz.prog 48 #[.slice (some ⟨blk, off, none⟩) ps.length cap, .func (.func 49) #[] #[]] w _ from h) ?_
 rintro e w' ⟨he, n, os, hw⟩
 exact ⟨he, n, os, hw⟩
theorem fz_ {ps : List (Int × Int)} {l : Nat} {H : List Row} (hl : H[l]? = some ⟨.ty 53, 2, aD_ ps⟩) (hlen : ps.length ≤ 4000000) {K : AV → List Row → Prop} (hk : K (.tup []) (H.set l ⟨.ty 53, 2, aD_ (gd_ ps)⟩)) :
 callSem Tryz.prog 48 [.own l ps.length, .fn 49 [] []] H K :=
 qD_ (fun blk off cap ps w h1 h2 h3 => pb_ blk off cap ps w h1 h2 h3) (fun p cap w => AnyF.slices_SortFunc_none Tryz.sortF p cap _ w) hl (by omega) hk
theorem o3_ {a b : Int × Int} (h : ¬ a = b) : (decide (a.1 = b.1) && decide (a.2 = b.2)) = false := by
 rw [← Bool.not_eq_true, Bool.and_eq_true, decide_eq_true_eq, decide_eq_true_eq]
 exact fun ⟨h1, h2⟩ => h (Prod.ext h1 h2)
theorem of_ {α : Type} {h : List α} {l : Nat} {r r' : α} (hl : h[l]? = some r) : (h.set l r')[l]? = some r' := by
 rw [getElem?_set_self (List.getElem?_eq_some_iff.1 hl).1]
theorem eE_ {H : List Row} {n : Nat} : ∀ (ps : List (Int × Int)), aK_ (Own H (n + 1)) (aD_ ps) (aD_ ps) []
 | [] => ⟨rfl, rfl⟩
 | p :: ps => ⟨_, _, [], [], rfl, rfl, ⟨_, _, [], [], rfl, rfl, ⟨rfl, .inl rfl⟩, ⟨_, _, [], [], rfl, rfl, ⟨rfl, .inl rfl⟩, ⟨rfl, rfl⟩⟩⟩, eE_ ps⟩
theorem hl_ : ∀ (x : Int × Int) (r : List (Int × Int)), ∃ r', a3_ (x :: r) = x :: r'
 | x, [] => ⟨[], rfl⟩
 | x, y :: r => by
  simp only [a3_]
  by_cases h : x = y
  ·subst h; rw [if_pos rfl]; exact hl_ x r
  ·rw [if_neg h]; exact ⟨_, rfl⟩
theorem jr_ (zs : List (Int × Int)) (a : Nat) (h0 : 0 < a) (h : a < zs.length) : a3_ (zs.drop (a - 1)) = if zs[a - 1] = zs[a] then a3_ (zs.drop a) else zs[a - 1] :: a3_ (zs.drop a) := by
 rw [drop_eq_getElem_cons (show a - 1 < zs.length by omega)]
 rw [show a - 1 + 1 = a by omega, drop_eq_getElem_cons h]
 rfl
theorem iz_ (zs : List (Int × Int)) (h : 0 < zs.length) : a3_ (zs.drop (zs.length - 1)) = [zs[zs.length - 1]] := by
 rw [drop_eq_getElem_cons (by omega), drop_eq_nil_of_le (by omega)]; rfl
def c52 : LC :=
 .q [.o [.nl 2], .q [.o [.m 6 0, .ll 7 6, .bk 8 .lss false 7 2], .k 8 (.q [.o [.m 9 0, .m 2 9], .ret]) .skip], .q [.o [.ki 3 1], .block 0 (.loop (.q [.q [.o [.m 10 3, .m 11 0, .ll 12 11, .bb 13 .lss false 10 12], .k 13
 .skip (.exit 0)], .block 1 (.q [.dops [.m 16 0, .m 17 3, .ia 18 2 16 17, .ld 19 2 18, .m 20 0, .m 21 3, .bk 22 .sub false 21 1, .ia 23 2 20 22, .ld 24 2 23, .s 25 (.eqSt false [0, 0] (.tmp 19) (.tmp 24))], .k 25 (.q [.o
 [.m 26 0, .m 27 3, .s 28 (.sliceSl 2 (.tmp 26) (some (.tmp 27)) none), .m 4 28], .q [.o [.ki 5 1], .block 2 (.loop (.q [.q [.o [.m 29 5, .m 30 4, .ll 31 30, .bb 32 .lss false 29 31], .k 32 .skip (.exit 2)], .block 3 (.q
 [.dops [.m 35 4, .m 36 5, .ia 37 2 35 36, .ld 38 2 37, .m 39 4, .m 40 5, .bk 41 .sub false 40 1, .ia 42 2 39 41, .ld 43 2 42, .s 44 (.eqSt true [0, 0] (.tmp 38) (.tmp 43))], .k 44 (.q [.o [.m 45 0, .m 46 3, .m 47 4, .m
 48 5, .ia 49 2 47 48, .ld 50 2 49, .ia 51 2 45 46, .st 2 51 50], .o [.m 52 3, .bk 53 .add false 52 1, .m 3 53]]) .skip]), .o [.m 33 5, .bk 34 .add false 33 1, .m 5 34]]))], .o [.m 54 0, .m 55 3, .s 56 (.sliceSl 2 (.tmp
 54) (some (.tmp 55)) none), .z (.clear 53 2 z0z (.tmp 56))], .o [.m 57 0, .m 58 3, .s 59 (.sliceSl 2 (.tmp 57) none (some (.tmp 58))), .m 2 59], .ret]) .skip]), .o [.m 14 3, .bk 15 .add false 14 1, .m 3 15]]))], .o [.m
 60 0, .m 2 60], .ret]
def so_ : LF := ⟨1, 61, c52, [.tmp 2]⟩
theorem w0_ : av_ Tryz.prog Tryz.f52 so_ := am_
theorem fZ_ {zs : List (Int × Int)} (hz : zs.length ≤ 4000000) {l : Nat} {H : List Row} (hl : H[l]? = some ⟨.ty 53, 2, aD_ zs⟩) {K : AV → List Row → Prop}
 (hK : ∀ a r', AW.resolve (H.set l r') 2 a = some (.list 0 2 (aD_ (a3_ zs))) → az_ l (l + 1) (H.set l r') a (.list 0 2 (aD_ (a3_ zs))) → K a (H.set l r')) : callSem Tryz.prog 52 [.own l zs.length] H K := by
 refine bp_ mixed Tryz.func52 w0_ (co_ rfl ?_)
 have hself : H.set l ⟨.ty 53, 2, aD_ zs⟩ = H := by have := ea_ hl; simpa using this
 have hget : ∀ r : Row, (H.set l r)[l]? = some r := fun r => of_ hl
 have hown : ∀ zs', zs' = a3_ zs → zs' = zs → K (.own l zs.length) H := by
  intro zs' e1 e2
  have := hK (.own l zs.length) ⟨.ty 53, 2, aD_ zs⟩ (by
   rw [hself, ← e1, e2]
   exact gr_ hl (a0_ _) (ju_ _)) (by
   rw [hself, ← e1, e2]
   exact ⟨2, [l], ⟨_, aD_ zs, [], hl, a0_ zs, eE_ zs, rfl, rfl⟩, by simp, by simp⟩)
  rwa [hself] at this
 by_cases h2 : (zs.length : Int) < 2
 ·simp (disch := omega) only [so_, c52, hl, h2, a0_, go_sem, reduceCtorEq, ↓reduceIte]
  refine hown (a3_ zs) rfl ?_
  match zs, h2 with
  | [], _ => rfl
  | [x], _ => rfl
  | x :: y :: r, h2 => simp at h2; omega
 simp (disch := omega) only [so_, c52, hl, h2, a0_, go_sem, reduceCtorEq, ↓reduceIte]
 refine aB_ (fun m t h => ∃ k : Nat, t 0 = .own l zs.length ∧ t 3 = .val (.int .i64 k) ∧ h = H ∧ m = zs.length - k ∧ 1 ≤ k ∧ k ≤ zs.length ∧ a3_ zs = zs.take (k - 1) ++ a3_ (zs.drop (k - 1))) (zs.length - 1) ⟨1, rfl, rfl, rfl, rfl, Nat.le_refl _, by omega, by simp⟩ ?_
 rintro J hJ m t h ⟨k, t0, t3, rfl, rfl, hk1, hk, hS⟩
 by_cases hlt : k < zs.length
 ·have hg := dG_ zs k hlt
  have hg1 := dG_ zs (k - 1) (by omega)
  have hkp : ((k : Int) - 1) = ((k - 1 : Nat) : Int) := by omega
  have hlt1 : k - 1 < zs.length := by omega
  rw [jr_ zs k hk1 hlt] at hS
  by_cases he : zs[k] = zs[k - 1]
  ·rw [if_pos he.symm] at hS
   have he1 : (zs[k].1 = zs[k - 1].1) = True := eq_true (congrArg Prod.fst he)
   have he2 : (zs[k].2 = zs[k - 1].2) = True := eq_true (congrArg Prod.snd he)
   simp (disch := omega) only [t0, t3, hl, hlt, hlt1, hg, hg1, hkp, he1, he2, a0_, go_sem, Nat.reduceEqDiff, Nat.reduceAdd, reduceCtorEq, ↓reduceIte]
   have hes : zs.take k = zs.take (k - 1) ++ [zs[k - 1]] := by rw [take_append_getElem hlt1]; congr 1; omega
   have hS2 : a3_ zs = zs.take k ++ (a3_ (zs.drop k)).drop 1 := by
    rw [hS, hes]
    obtain ⟨r', e⟩ := hl_ zs[k] (zs.drop (k + 1))
    rw [← drop_eq_getElem_cons hlt] at e
    rw [e, he, append_assoc]; rfl
   refine aB_ (fun m t h' => ∃ (c k2 : Nat) (ws : List (Int × Int)), t 0 = .own l zs.length ∧ t 3 = .val (.int .i64 c) ∧ t 4 = .sub l zs.length k zs.length ∧ t 5 = .val (.int .i64 k2) ∧ h' = h.set l ⟨.ty 53, 2, aD_ ws⟩ ∧ m = zs.length - (k + k2) ∧ 1 ≤ k2 ∧ k + k2 ≤ zs.length ∧ c < k + k2 ∧ ws.length = zs.length ∧ (∀ i, k + k2 - 1 ≤ i → ws[i]? = zs[i]?) ∧ a3_ zs = ws.take c ++ (a3_ (zs.drop (k + k2 - 1))).drop 1) (zs.length - (k + 1))
    ⟨k, 1, zs, by simp [upd, t0], by simp [upd, t3], by simp [upd], by simp [upd], hself.symm, rfl, Nat.le_refl _, by omega, by omega, rfl, fun _ _ => rfl, by rw [show k + 1 - 1 = k by omega]; exact hS2⟩ ?_
   clear hS hS2 hg hg1 t0 t3
   rintro J2 hJ2 m t h' ⟨c, k2, ws, t0, t3, t4, t5, rfl, rfl, hk2, hkk, hc, hwl, hws, hS⟩
   by_cases hlt2 : k + k2 < zs.length
   ·have hcond : ((k : Int) + (k2 : Int) < (zs.length : Int)) = True := eq_true (by omega)
    have hcond1 : ((k : Int) + ((k2 - 1 : Nat) : Int) < (zs.length : Int)) = True := eq_true (by omega)
    have hl2 : ((k2 : Int) < ((zs.length - k : Nat) : Int)) = True := eq_true (by omega)
    have hp2 : ((k2 : Int) - 1) = ((k2 - 1 : Nat) : Int) := by omega
    have g1 : (aD_ ws)[k + k2]? = some [.val (.int .i64 zs[k + k2].1), .val (.int .i64 zs[k + k2].2)] := by
     have : ws[k + k2]? = some zs[k + k2] := by rw [hws _ (by omega)]; exact getElem?_eq_getElem hlt2
     simp [aD_, this]
    have hlt3 : k + (k2 - 1) < zs.length := by omega
    have g2 : (aD_ ws)[k + (k2 - 1)]? = some [.val (.int .i64 zs[k + (k2 - 1)].1), .val (.int .i64 zs[k + (k2 - 1)].2)] := by
     have : ws[k + (k2 - 1)]? = some zs[k + (k2 - 1)] := by rw [hws _ (by omega)]; exact getElem?_eq_getElem hlt3
     simp [aD_, this]
    have hcw : c < ws.length := by omega
    have g3 := dG_ ws c hcw
    have hcz : ((c : Int) < (zs.length : Int)) = True := eq_true (by omega)
    have hidx : k + k2 - 1 = k + (k2 - 1) := by omega
    rw [hidx] at hS
    have hat := jr_ zs (k + k2) (by omega) hlt2
    simp only [hidx] at hat
    rw [hat] at hS
    by_cases hne : zs[k + k2] = zs[k + (k2 - 1)]
    ·have hne1 : (zs[k + k2].1 = zs[k + (k2 - 1)].1) = True := eq_true (congrArg Prod.fst hne)
     have hne2 : (zs[k + k2].2 = zs[k + (k2 - 1)].2) = True := eq_true (congrArg Prod.snd hne)
     rw [if_pos hne.symm] at hS
     simp (disch := omega) only [t4, t5, hget, hwl, hcond, hcond1, hl2, hp2, g1, g2, hne1, hne2, hk, a0_, go_sem, Nat.reduceEqDiff, Nat.reduceAdd, ↓reduceIte]
     exact ⟨zs.length - (k + (k2 + 1)), by omega, hJ2 _ _ _ ⟨c, k2 + 1, ws, by simp [upd, t0], by simp [upd, t3], by simp [upd, t4], by simp [upd], rfl, rfl, by omega, by omega, by omega, hwl, fun i hi => hws i (by omega), by rw [show k + (k2 + 1) - 1 = k + k2 by omega]; exact hS⟩⟩
    ·have hne1 : (decide (zs[k + k2].1 = zs[k + (k2 - 1)].1) && decide (zs[k + k2].2 = zs[k + (k2 - 1)].2)) = false := o3_ hne
     rw [if_neg (fun q => hne q.symm)] at hS
     simp (disch := omega) only [t0, t3, t4, t5, hget, hwl, hcond, hcond1, hl2, hp2, g1, g2, g3, hne1, hcz, hk, set_set, pm_, a0_, go_sem, Nat.reduceEqDiff, Nat.reduceAdd, reduceCtorEq, ↓reduceIte]
     refine ⟨zs.length - (k + (k2 + 1)), by omega, hJ2 _ _ _ ⟨c + 1, k2 + 1, ws.set c zs[k + k2], by simp [upd, t0], by simp [upd], by simp [upd, t4], by simp [upd], rfl, rfl, by omega, by omega, by omega, by simp [hwl], fun i hi => ?_, ?_⟩⟩
     ·rw [getElem?_set_ne (by omega)]; exact hws i (by omega)
     ·rw [show k + (k2 + 1) - 1 = k + k2 by omega, hS]
      obtain ⟨r', e⟩ := hl_ zs[k + k2] (zs.drop (k + k2 + 1))
      rw [← drop_eq_getElem_cons hlt2] at e
      rw [e]
      have : (ws.set c zs[k + k2]).take (c + 1) = ws.take c ++ [zs[k + k2]] := by
       rw [← take_append_getElem (by simpa using hcw)]
       simp [take_set_of_le]
      rw [this]; simp
   ·have hend : k + k2 - 1 = zs.length - 1 := by omega
    have hl2 : ((k2 : Int) < ((zs.length - k : Nat) : Int)) = False := eq_false (by omega)
    have hfin : a3_ zs = ws.take c := by rw [hS, hend, iz_ zs (by omega)]; simp
    simp (disch := omega) only [t0, t3, t4, t5, hget, hwl, hl2, hk, set_set, a0_, go_sem, Nat.reduceEqDiff, reduceCtorEq, ↓reduceIte]
    refine ⟨by omega, ?_⟩
    have hrow : ∀ A : List (List AV), A = (aD_ ws).take c ++ (List.replicate (zs.length - c) [AV.val (Value.int .i64 0), AV.val (Value.int .i64 0)] ++ (aD_ ws).drop zs.length) → A = aD_ (ws.take c ++ List.replicate (zs.length - c) (0, 0)) := by
     intro A e
     rw [e, drop_eq_nil_of_le (by rw [a0_]; omega), append_nil, jt_, ← h0_]
     congr 1
     simp [aD_]
    rw [if_pos ⟨by simp [a0_, hwl]; omega, by omega⟩]
    have hr := hrow _ rfl
    have hlen2 : (ws.take c ++ List.replicate (zs.length - c) ((0, 0) : Int × Int)).length = zs.length := by simp; omega
    have hcut : ((aD_ (ws.take c ++ List.replicate (zs.length - c) ((0, 0) : Int × Int))).take c).drop 0 = aD_ (a3_ zs) := by
     rw [drop_zero, jt_, hfin]
     congr 1
     rw [take_append_of_le_length (by simp; omega), take_take]; simp
    refine hK _ _ ?_ ?_
    ·rw [hr, oR_ (n := 0) (hget _) (by rw [a0_, hlen2]) (ju_ _)]
     exact congrArg (fun q => some (AV.list 0 2 q)) hcut
    ·rw [hr]
     exact ⟨2, [l], ⟨_, _, [], hget _, by rw [a0_, hlen2], eE_ _, congrArg (AV.list 0 2) hcut.symm, rfl⟩, by simp, by simp⟩
  ·rw [if_neg (fun q => he q.symm)] at hS
   have he1 : (decide (zs[k].1 = zs[k - 1].1) && decide (zs[k].2 = zs[k - 1].2)) = false := o3_ he
   simp (disch := omega) only [t0, t3, hl, hlt, hlt1, hg, hg1, hkp, he1, a0_, go_sem, Nat.reduceEqDiff, Nat.reduceAdd, reduceCtorEq, ↓reduceIte]
   refine ⟨zs.length - (k + 1), by omega, hJ _ _ _ ⟨k + 1, by simp [upd, t0], by simp [upd], rfl, rfl, by omega, by omega, ?_⟩⟩
   rw [hS, show k + 1 - 1 = k by omega]
   have e : zs.take k = zs.take (k - 1) ++ [zs[k - 1]] := by rw [take_append_getElem hlt1]; congr 1; omega
   rw [e, append_assoc]; rfl
 ·simp (disch := omega) only [t0, t3, hl, hlt, a0_, go_sem, Nat.reduceEqDiff, reduceCtorEq, ↓reduceIte]
  refine hown (a3_ zs) rfl ?_
  have : k - 1 = zs.length - 1 := by omega
  rw [hS, this, iz_ zs (by omega)]
  rw [take_append_getElem, show zs.length - 1 + 1 = zs.length by omega, take_length]
end Go.Proofs.YtddmifalinefnaaGreatDoor
