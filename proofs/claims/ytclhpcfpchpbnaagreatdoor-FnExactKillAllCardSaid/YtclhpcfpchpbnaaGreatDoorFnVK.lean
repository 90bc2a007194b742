/-
 Contracts of functions of this program, over abstract values. Conditions: as each theorem says.
-/
import Derived.Test.YtclhpcfpchpbnaaGreatDoorFnVI
import Derived.Test.YtclhpcfpchpbnaaGreatDoorFnUC
import Derived.Test.YtclhpcfpchpbnaaGreatDoorFnUB
import Derived.Test.YtclhpcfpchpbnaaGreatDoorFnVA
namespace Go.Proofs.YtclhpcfpchpbnaaGreatDoor
open Go.AW
set_option linter.unusedVariables false
set_option linter.unusedSimpArgs false
set_option maxRecDepth 4000

def c131 : LC :=
 .seq (.ops [⟨some 2, none, .mov (.const (.slice none 0 0))⟩]) (.seq (.seq (.ops [⟨some 3, none, .mov (.tmp 0)⟩, ⟨some 4, none, .isNil false (.tmp 3)⟩]) (.cond (.tmp 4) (.seq (.ops [⟨some 2, none, .mov (.const (.slice none
 0 0))⟩]) (.ghost .ret)) (.skip))) (.seq (.ops [⟨some 5, none, .buildSlice 77 2 (.agg #[.string ⟨#[]⟩, .int .i64 0]) 0 []⟩, ⟨some 6, none, .mov (.tmp 0)⟩, ⟨some 7, none, .append 77 2 24 (.tmp 5) (.tmp 6)⟩, ⟨some 2, none,
 .mov (.tmp 7)⟩]) (.ghost .ret)))
def lf131 : LF := { np := 1, N := 8, body := c131, res := [.tmp 2] }
theorem low131 : LowF Tryz.prog Tryz.f131 lf131 := LowF.mk' (by kernel_rfl) (by kernel_rfl) (by kernel_rfl) (by decide)

theorem slices_Clone_impl_Bind_fresh (xs : List GBind) (hx : xs.length ≤ 1048576) : FreshCall Tryz.prog 131 [.list 0 2 (xs.map GBind.cells)] (.list 0 2 (xs.map GBind.cells)) (fun a => ∃ l, a = .own l xs.length) := by
 refine fresh_fn2 mixed Tryz.func131 low131 rfl (fun h0 => ?_)
 have hv : ∀ e ∈ xs.map GBind.cells, ∀ c ∈ e, ∃ v, c = AV.val v := by
  intro e he c hc
  obtain ⟨x, _, q⟩ := List.mem_map.1 he; subst q
  simp only [GBind.cells, List.mem_cons, List.not_mem_nil, or_false] at hc
  first | (rcases hc with rfl) | (rcases hc with rfl | rfl) | (rcases hc with rfl | rfl | rfl)
  all_goals exact ⟨_, rfl⟩
 have hcell : ∀ e ∈ xs.map GBind.cells, e.all AV.cell = true := by
  intro e he
  obtain ⟨x, _, q⟩ := List.mem_map.1 he; subst q; rfl
 simp (disch := omega) only [lf131, c131, go_sem, reduceCtorEq, ↓reduceIte]
 intro b hb
 cases b
 ·simp (disch := omega) only [bne_self_eq_false, go_sem, Nat.reduceEqDiff, reduceCtorEq, ↓reduceIte]
  refine ⟨by omega, by omega, hcell, ?_⟩
  try simp (disch := omega) only [go_sem, Nat.reduceEqDiff, Nat.reduceAdd, Nat.reduceLeDiff, reduceCtorEq, Int.reduceLT, Int.reduceLE, Int.reduceNeg, Int.reduceSub, Int.reduceAdd, Int.reduceToNat, ↓reduceIte]
  refine Ex_ghost _ _ ghost_id ?_
  simp (disch := omega) only [go_sem, ↓reduceIte]
  exact ⟨⟨More.app _ _, (FreshB.mkown (lo := h0.length + 1) (hi := h0.length + 1) (FreshLLB.ofVals _ _ _ _ hv) (by rw [getA0]; rfl) (by simp) (Nat.le_refl _) (Nat.lt_succ_self _) (Nat.le_refl _)).widen (Nat.le_refl _) (by simp)⟩, _, rfl⟩
 ·have hx0 : xs = [] := by simpa using hb rfl
  subst hx0
  simp (disch := omega) only [Bool.bne_false, List.map_nil, go_sem]
  refine Ex_ghost _ _ (ghost_tmp 2 77 2 rfl) ?_
  simp (disch := omega) only [go_sem, ↓reduceIte]
  exact ⟨⟨More.app _ _, (FreshB.mkown (lo := h0.length + 1) (hi := h0.length + 1) (FreshLLB.nil _ _ _) (by rw [getA0]; rfl) (by simp) (Nat.le_refl _) (Nat.lt_succ_self _) (Nat.le_refl _)).widen (Nat.le_refl _) (by simp)⟩, _, rfl⟩

def c175 : LC :=
 .seq (.ops [⟨some 4, none, .mov (.const (.int .i64 0))⟩]) (.seq (.seq (.ops [⟨some 6, none, .mov (.tmp 0)⟩, ⟨some 7, none, .lenSl (.tmp 6)⟩, ⟨some 8, none, .mov (.const (.int .i64 0))⟩]) (.block 0 (.loop (.seq (.ops
 [⟨some 9, none, .bin .lss false (.tmp 8) (.tmp 7)⟩]) (.seq (.cond (.tmp 9) (.skip) (.exit 0)) (.seq (.block 1 (.seq (.ops [⟨some 10, none, .mov (.tmp 8)⟩, ⟨some 5, none, .mov (.tmp 10)⟩]) (.seq (.ops [⟨some 11, none, .mov
 (.tmp 1)⟩, ⟨some 12, none, .mov (.tmp 0)⟩, ⟨some 13, none, .mov (.tmp 5)⟩, ⟨some 14, none, .indexAddr 2 (.tmp 12) (.tmp 13)⟩, ⟨some 15, none, .load (some 2) (.tmp 14)⟩, ⟨some 16, none, .callv (.tmp 11) [.tmp 15]⟩]) (.cond
 (.tmp 16) (.seq (.ops [⟨some 17, none, .mov (.tmp 5)⟩, ⟨some 4, none, .mov (.tmp 17)⟩]) (.ret)) (.skip))))) (.ops [⟨some 18, none, .bin .add false (.tmp 8) (.const (.int .i64 1))⟩, ⟨some 8, none, .mov (.tmp 18)⟩])))))))
 (.seq (.ops [⟨some 4, none, .mov (.const (.int .i64 (-1)))⟩]) (.ret)))
def lf175 : LF := { np := 2, N := 19, body := c175, res := [.tmp 4] }
theorem low175 : LowF Tryz.prog Tryz.f175 lf175 := LowF.mk' (by kernel_rfl) (by kernel_rfl) (by kernel_rfl) (by decide)

theorem slices_IndexFunc_impl_Cell_tr {lo E l m : Nat} {H : List Row} {ts : List Tr} (s : SlAt lo H E 2 l m ts) (p : Tr → Bool) (G : Nat) (caps : List AV) (hm : m ≤ 1048576) (hc : callable Tryz.prog G = true)
 (hp : ∀ H' : List Row, H.length ≤ H'.length → (∀ x, x < H.length → x ≠ l → H'[x]? = H[x]?) → ∀ t ∈ ts.take m, QCall Tryz.prog G (.agg t.c :: caps) H' (.val (.bool (p t)))) : QCall Tryz.prog 175 [.sub l ts.length 0 m, .fn G [] caps] H (.val (.int .i64 (idxFrom p (ts.take m) 0))) := by
 intro K hk
 refine call_of_fnWp mixed Tryz.func175 low175 (fnWp_of rfl ?_)
 have hr := s.row
 have hle := s.le
 simp (disch := omega) only [lf175, c175, hr, Nat.sub_zero, go_sem, reduceCtorEq, Int.reduceNeg, ↓reduceIte]
 refine Ex_loop (fun n t h => ∃ k : Nat, t 0 = .sub l ts.length 0 m ∧ t 1 = .fn G [] caps ∧ t 7 = .val (.int .i64 m) ∧ t 8 = .val (.int .i64 k) ∧ More H h ∧ n = m - k ∧ k ≤ m ∧ idxFrom p (ts.take m) 0 = idxFrom p ((ts.take m).drop k) k) m ⟨0, rfl, rfl, rfl, rfl, More.refl _, rfl, Nat.zero_le _, rfl⟩ ?_
 rintro J hJ n t h ⟨k, t0, t1, t7, t8, hM, rfl, hk', hS⟩
 have hr := hM.at hr
 by_cases hlt : k < m
 ·have hlt2 : k < ts.length := by omega
  have hlt3 : k < (ts.take m).length := by rw [List.length_take]; omega
  rw [idxFrom_drop p _ k hlt3, List.getElem_take] at hS
  have hw := (s.wide ts[k] (List.getElem_mem hlt2)).1
  have htk : ts[k].c.take 2 = ts[k].c := List.take_of_length_le (by omega)
  simp (disch := omega) only [t0, t1, t7, t8, hr, hlt, hw, htk, hc, Int.zero_add, go_sem, Nat.reduceEqDiff, reduceCtorEq, Int.reduceNeg, ↓reduceIte]
  refine hp _ hM.len (fun x q1 _ => hM.kept x q1) _ (mem_take_at hlt hlt2) _ (fun H2 m2 => ?_)
  cases q : p ts[k]
  ·simp (disch := omega) only [t8, wrap_in, go_sem, Nat.reduceEqDiff, Int.reduceNeg, ↓reduceIte]
   exact ⟨m - (k + 1), by omega, hJ _ _ _ ⟨k + 1, by simp [upd, t0], by simp [upd, t1], by simp [upd, t7], by simp [upd], hM.trans m2, rfl, by omega, by rw [hS, q]; rfl⟩⟩
  ·simp (disch := omega) only [go_sem, Nat.reduceEqDiff, Int.reduceNeg, ↓reduceIte]
   rw [hS, q] at hk
   exact hk _ (hM.trans m2)
 ·simp (disch := omega) only [t7, t8, hlt, go_sem, Int.reduceNeg, ↓reduceIte]
  rw [hS, idxFrom_end _ _ _ (by rw [List.length_take]; omega)] at hk
  exact hk _ hM

def c132 : LC :=
 .seq (.ops [⟨some 4, none, .mov (.const (.slice none 0 0))⟩]) (.seq (.ops [⟨some 8, none, .mov (.tmp 0)⟩, ⟨some 9, none, .mov (.tmp 1)⟩, ⟨some 10, none, .call 175 [.tmp 8, .tmp 9]⟩, ⟨some 5, none, .mov (.tmp 10)⟩]) (.seq
 (.seq (.ops [⟨some 11, none, .mov (.tmp 5)⟩, ⟨some 12, none, .bin .eql false (.tmp 11) (.const (.int .i64 (-1)))⟩]) (.cond (.tmp 12) (.seq (.ops [⟨some 13, none, .mov (.tmp 0)⟩, ⟨some 4, none, .mov (.tmp 13)⟩]) (.ret))
 (.skip))) (.seq (.seq (.ops [⟨some 14, none, .mov (.tmp 5)⟩, ⟨some 15, none, .bin .add false (.tmp 14) (.const (.int .i64 1))⟩, ⟨some 6, none, .mov (.tmp 15)⟩]) (.block 0 (.loop (.seq (.seq (.ops [⟨some 16, none, .mov
 (.tmp 6)⟩, ⟨some 17, none, .mov (.tmp 0)⟩, ⟨some 18, none, .lenSl (.tmp 17)⟩, ⟨some 19, none, .bin .lss false (.tmp 16) (.tmp 18)⟩]) (.cond (.tmp 19) (.skip) (.exit 0))) (.seq (.block 1 (.seq (.ops [⟨some 22, none, .mov
 (.tmp 0)⟩, ⟨some 23, none, .mov (.tmp 6)⟩, ⟨some 24, none, .indexAddr 2 (.tmp 22) (.tmp 23)⟩, ⟨some 25, none, .load (some 2) (.tmp 24)⟩, ⟨some 7, none, .alloc 118 (.agg #[.int .i64 0, .slice none 0 0])⟩, ⟨none, none,
 .store 2 (.tmp 7) (.tmp 25)⟩]) (.seq (.ops [⟨some 26, none, .mov (.tmp 1)⟩, ⟨some 27, none, .load (some 2) (.tmp 7)⟩, ⟨some 28, none, .callv (.tmp 26) [.tmp 27]⟩, ⟨some 29, none, .un .not (.tmp 28)⟩]) (.cond (.tmp 29)
 (.seq (.ops [⟨some 30, none, .mov (.tmp 0)⟩, ⟨some 31, none, .mov (.tmp 5)⟩, ⟨some 32, none, .load (some 2) (.tmp 7)⟩, ⟨some 33, none, .indexAddr 2 (.tmp 30) (.tmp 31)⟩, ⟨none, none, .store 2 (.tmp 33) (.tmp 32)⟩]) (.ops
 [⟨some 34, none, .mov (.tmp 5)⟩, ⟨some 35, none, .bin .add false (.tmp 34) (.const (.int .i64 1))⟩, ⟨some 5, none, .mov (.tmp 35)⟩])) (.skip))))) (.ops [⟨some 20, none, .mov (.tmp 6)⟩, ⟨some 21, none, .bin .add false
 (.tmp 20) (.const (.int .i64 1))⟩, ⟨some 6, none, .mov (.tmp 21)⟩])))))) (.seq (.ops [⟨some 36, none, .mov (.tmp 0)⟩, ⟨some 37, none, .mov (.tmp 5)⟩, ⟨some 38, none, .sliceSl 2 (.tmp 36) (some (.tmp 37)) none⟩, ⟨none,
 none, .clear 118 2 (.agg #[.int .i64 0, .slice none 0 0]) (.tmp 38)⟩]) (.seq (.ops [⟨some 39, none, .mov (.tmp 0)⟩, ⟨some 40, none, .mov (.tmp 5)⟩, ⟨some 41, none, .sliceSl 2 (.tmp 39) none (some (.tmp 40))⟩, ⟨some 4,
 none, .mov (.tmp 41)⟩]) (.ret))))))
def lf132 : LF := { np := 2, N := 42, body := c132, res := [.tmp 4] }
theorem low132 : LowF Tryz.prog Tryz.f132 lf132 := LowF.mk' (by kernel_rfl) (by kernel_rfl) (by kernel_rfl) (by decide)

theorem slices_DeleteFunc_impl_Cell_tr {lo l m : Nat} {H : List Row} {ts : List Tr} (s : SlAt lo H 118 2 l m ts) (p : Tr → Bool) (G : Nat) (caps : List AV) (hm : m ≤ 1048576) (hc : callable Tryz.prog G = true)
 (hp : ∀ H' : List Row, H.length ≤ H'.length → (∀ x, x < H.length → x ≠ l → H'[x]? = H[x]?) → ∀ t ∈ ts.take m, QCall Tryz.prog G (.agg t.c :: caps) H' (.val (.bool (p t)))) {K : AV → List Row → Prop}
 (hk : ∀ (H' : List Row) (m' : Nat) (ts' : List Tr), H.length ≤ H'.length → (∀ x, x < H.length → x ≠ l → H'[x]? = H[x]?) → SlAt lo H' 118 2 l m' ts' → ts'.length = ts.length → (∀ x, x ∈ foot l ts' → x ∈ foot l ts) → ts'.take m' = (ts.take m).filter (fun t => !p t) → K (.sub l ts'.length 0 m') H') :
 callSem Tryz.prog 132 [.sub l ts.length 0 m, .fn G [] caps] H K := by
 refine call_of_fnWp mixed Tryz.func132 low132 (fnWp_of rfl ?_)
 have hr := s.row
 have hle := s.le
 have hll := s.lt
 simp (disch := omega) only [lf132, c132, go_sem, Nat.reduceEqDiff, reduceCtorEq, Int.reduceNeg, ↓reduceIte]
 refine slices_IndexFunc_impl_Cell_tr s p G caps hm hc hp _ (fun H0 m0 => ?_)
 have l0 := m0.len
 rcases idxFrom_first p (ts.take m) 0 with ⟨h1, h2⟩ | ⟨i0, hi0, h1, h2, h3⟩
 ·rw [h1]
  simp (disch := omega) only [go_sem, reduceCtorEq, Int.reduceNeg, ↓reduceIte]
  refine hk H0 m ts l0 (fun x q _ => m0.kept x q) (s.more m0) rfl (fun _ q => q) (List.filter_eq_self.2 fun a ha => by rw [h2 a ha]; rfl).symm
 rw [List.length_take] at hi0
 rw [List.getElem_take] at h2
 have hneg : (((0 + i0 : Nat) : Int) = -1) = False := eq_false (by omega)
 rw [h1]
 simp (disch := omega) only [Nat.zero_add, wrap_in, go_sem, Nat.reduceEqDiff, reduceCtorEq, Int.reduceNeg, ↓reduceIte]
 have hkept0 : (ts.take (i0 + 1)).filter (fun t => !p t) = ts.take i0 := by
  rw [List.take_succ_eq_append_getElem (by omega), List.filter_append]
  have e1 : (ts.take i0).filter (fun t => !p t) = ts.take i0 := List.filter_eq_self.2 fun a ha => by
   obtain ⟨j, hj, rfl⟩ := List.mem_iff_getElem.1 ha
   rw [List.length_take] at hj
   have := h3 j (by omega)
   rw [List.getElem_take] at this
   rw [List.getElem_take, this]; rfl
  rw [e1]; simp [h2]
 refine Ex_loop (fun n t h => ∃ (j : Nat) (kept W : List Tr), t 0 = .sub l ts.length 0 m ∧ t 1 = .fn G [] caps ∧ t 5 = .val (.int .i64 kept.length) ∧ t 6 = .val (.int .i64 j) ∧ H.length ≤ h.length ∧ (∀ x, x < H.length → x ≠ l → h[x]? = H[x]?) ∧ h[l]? = some ⟨.ty 118, 2, W.map Tr.c⟩ ∧
  kept = (ts.take j).filter (fun t => !p t) ∧ W.length = ts.length ∧ W.take kept.length = kept ∧ W.drop kept.length = ts.drop kept.length ∧ kept.length ≤ j ∧ n = m - j ∧ j ≤ m) (m - (i0 + 1)) ⟨i0 + 1, ts.take i0, ts, rfl, rfl, by simp [upd]; omega, by simp [upd], l0, fun x q _ => m0.kept x q, m0.at hr, hkept0.symm, rfl, by rw [List.length_take, Nat.min_eq_left (by omega)], rfl, by rw [List.length_take]; omega, rfl, by omega⟩ ?_
 rintro J hJ n t h ⟨j, kept, W, t0, t1, t5, t6, hl, hkeep, hrow, hkp, hW, hW1, hW2, hkj, rfl, hj⟩
 have gl : l < h.length := by omega
 by_cases hlt : j < m
 ·have hlt2 : j < ts.length := by omega
  have hlt3 : j < W.length := by omega
  have hlk : kept.length < W.length := by omega
  have hlkm : kept.length < m := by omega
  have hWj : W[j] = ts[j] := by
   have := congrArg (fun q => q[j - kept.length]?) hW2
   simp only [List.getElem?_drop] at this
   rw [Nat.add_sub_of_le hkj, List.getElem?_eq_getElem hlt3, List.getElem?_eq_getElem hlt2] at this
   exact Option.some.inj this
  have hWk : W[kept.length] = ts[kept.length] := by
   have := congrArg (fun q => q[0]?) hW2
   simp only [List.getElem?_drop, Nat.add_zero] at this
   rw [List.getElem?_eq_getElem hlk, List.getElem?_eq_getElem (by omega)] at this
   exact Option.some.inj this
  obtain ⟨hw, hw2⟩ := s.wide ts[j] (List.getElem_mem hlt2)
  have htk : ts[j].c.take 2 = ts[j].c := List.take_of_length_le (by omega)
  have hwk := (s.wide ts[kept.length] (List.getElem_mem (by omega))).1
  have hdk : ts[kept.length].c.drop 2 = [] := List.drop_eq_nil_of_le (by omega)
  have htk2 := fun u => List.take_succ_eq_append_getElem (l := ts) (i := u)
  simp (disch := (first | omega | (simp only [List.length_set, List.length_append, List.length_cons, List.length_nil]; first | done | omega))) only [look_new, go_sem, Nat.reduceEqDiff, Nat.reduceAdd, reduceCtorEq, ↓reduceIte, t0, t1, t6, hrow, hlt, hW, hWj, hw, hw2, htk, hc, Nat.sub_zero, Int.zero_add]
  refine hp _ (by simp; omega) (fun x q1 q2 => by (repeat (first | rw [look_ne (by omega)] | rw [look_old (by first | omega | (simp only [List.length_set, List.length_append, List.length_cons, List.length_nil]; omega))])); exact hkeep x q1 q2) _ (mem_take_at hlt hlt2) _ (fun H2 m2 => ?_)
  have l2 := m2.len
  simp only [List.length_append, List.length_cons, List.length_nil] at l2
  have rw2 := m2.at (get_old hrow)
  have rw3 := m2.at (new_row h _)
  cases q : p ts[j]
  ·simp (disch := (first | omega | (simp only [List.length_set, List.length_append, List.length_cons, List.length_nil]; first | done | omega))) only [go_sem, Nat.reduceEqDiff, reduceCtorEq, ↓reduceIte, t0, t5, t6, rw2, rw3, hlkm, hW, hWk, hw, hw2, htk, hwk, hdk, Int.zero_add, wrap_in]
   have e1 : (ts.take (j + 1)).filter (fun t => !p t) = kept ++ [ts[j]] := by rw [htk2 j hlt2, List.filter_append, ← hkp]; simp [q]
   refine ⟨m - (j + 1), by omega, hJ _ _ _ ⟨j + 1, kept ++ [ts[j]], W.set kept.length ts[j], by simp [upd, t0], by simp [upd, t1], by simp [upd], by simp [upd], by (try simp only [List.length_set]); omega, fun x q1 q2 => ?_, ?_, e1.symm, by simp [hW], ?_, ?_, by simp; omega, rfl, by omega⟩⟩
   ·rw [look_ne (by omega), m2.kept x (by simp; omega), look_old (by omega)]; exact hkeep x q1 q2
   ·rw [look_hit (by omega), List.map_set]
   ·rw [List.length_append, List.length_singleton, List.take_succ_eq_append_getElem (by simpa using hlk), List.getElem_set_self, List.take_set_of_le (Nat.le_refl _), hW1]
   ·rw [List.length_append, List.length_singleton, List.drop_set_of_lt (by omega), ← List.drop_drop, hW2, List.drop_drop]
  ·simp (disch := (first | omega | (simp only [List.length_set, List.length_append, List.length_cons, List.length_nil]; first | done | omega))) only [go_sem, Nat.reduceEqDiff, ↓reduceIte, t6, wrap_in]
   have e1 : (ts.take (j + 1)).filter (fun t => !p t) = kept := by rw [htk2 j hlt2, List.filter_append, ← hkp]; simp [q]
   refine ⟨m - (j + 1), by omega, hJ _ _ _ ⟨j + 1, kept, W, by simp [upd, t0], by simp [upd, t1], by simp [upd, t5], by simp [upd], by omega, fun x q1 q2 => ?_, ?_, e1.symm, hW, hW1, hW2, by omega, rfl, by omega⟩⟩
   ·rw [m2.kept x (by simp; omega), look_old (by omega)]; exact hkeep x q1 q2
   ·exact rw2
 have e : j = m := by omega
 subst e
 have zc : List AV := [.val (.int .i64 0), .val (.slice none 0 0)]
 have hz : (W.map Tr.c).take kept.length ++ (List.replicate (j - kept.length) [.val (.int .i64 0), .val (.slice none 0 0)] ++ (W.map Tr.c).drop j) = (kept ++ (List.replicate (j - kept.length) (⟨[.val (.int .i64 0), .val (.slice none 0 0)], [.val (.int .i64 0), .val (.slice none 0 0)], []⟩ : Tr) ++ ts.drop j)).map Tr.c := by
  have e2 : W.drop j = ts.drop j := by
   have := congrArg (List.drop (j - kept.length)) hW2
   rwa [List.drop_drop, List.drop_drop, Nat.add_sub_of_le hkj] at this
  rw [List.map_append, List.map_append, List.map_replicate, ← List.map_take, ← List.map_drop, hW1, e2]
 have hz2 : (kept ++ (List.replicate (j - kept.length) (⟨[.val (.int .i64 0), .val (.slice none 0 0)], [.val (.int .i64 0), .val (.slice none 0 0)], []⟩ : Tr) ++ ts.drop j)).length = ts.length := by
  simp only [List.length_append, List.length_replicate, List.length_drop]; omega
 have hkt := hkj
 generalize hts : kept ++ (List.replicate (j - kept.length) (⟨[.val (.int .i64 0), .val (.slice none 0 0)], [.val (.int .i64 0), .val (.slice none 0 0)], []⟩ : Tr) ++ ts.drop j) = ts' at hz hz2
 simp (disch := (first | omega | (simp only [List.length_set, List.length_append, List.length_cons, List.length_nil]; first | done | omega))) only [look_hit, go_sem, Nat.reduceEqDiff, reduceCtorEq, ↓reduceIte, t0, t5, t6, hrow, hlt, hW, hle, hkt, hz, hz2, Nat.sub_zero]
 have hold : (kept ++ ts.drop j).Sublist ts := by
  have : (ts.take j ++ ts.drop j).Sublist ts := by rw [List.take_append_drop]; exact List.Sublist.refl _
  exact (List.Sublist.append (by rw [hkp]; exact List.filter_sublist) (List.Sublist.refl _)).trans this
 have hnil : ∀ x, x ∉ ((List.replicate (j - kept.length) (⟨[.val (.int .i64 0), .val (.slice none 0 0)], [.val (.int .i64 0), .val (.slice none 0 0)], []⟩ : Tr)).map Tr.f).flatten := by
  intro x hx
  obtain ⟨f, q1, q2⟩ := List.mem_flatten.1 hx
  obtain ⟨y, q3, rfl⟩ := List.mem_map.1 q1
  rw [(List.mem_replicate.1 q3).2] at q2
  cases q2
 have hfin : SlAt lo (h.set l ⟨.ty 118, 2, ts'.map Tr.c⟩) 118 2 l kept.length ts' := by
  refine s.renew (l' := l) (new := List.replicate (j - kept.length) (⟨[.val (.int .i64 0), .val (.slice none 0 0)], [.val (.int .i64 0), .val (.slice none 0 0)], []⟩ : Tr)) (old := kept ++ ts.drop j) (look_hit gl) (by omega) ?_ hold (fun t ht => by rw [(List.mem_replicate.1 ht).2]; exact ⟨rfl, rfl⟩) ⟨1, fun t ht => ?_⟩ ?_ (fun x hx => absurd hx (hnil x)) (fun x hx => ?_) (.inl rfl) (by simpa using hl)
  ·rw [← hts]
   exact (List.perm_append_comm_assoc _ _ _)
  ·rw [(List.mem_replicate.1 ht).2]
   repeat (first | exact ⟨rfl, rfl⟩ | refine ⟨_, _, [], [], rfl, rfl, ⟨rfl, .inl rfl⟩, ?_⟩)
  ·rw [List.eq_nil_iff_forall_not_mem.2 hnil]; exact List.nodup_nil
  ·have h5 : x ≠ l := fun e => (List.nodup_cons.1 s.one).1 (e ▸ hx)
   have h6 := (s.lows x (List.mem_cons_of_mem _ hx)).2
   rw [look_ne (by omega)]; exact hkeep x h6 h5
 have := hk _ kept.length ts' (by simpa using hl) (fun x q1 q2 => by rw [look_ne (by omega)]; exact hkeep x q1 q2) hfin hz2 ?_ (by rw [← hts, List.take_left', hkp]; rfl)
 ·rw [hz2] at this; exact this
 ·intro x hx
  rw [← hts] at hx
  rcases List.mem_cons.1 hx with q | q
  ·subst q; simp [foot]
  ·obtain ⟨f, q1, q2⟩ := List.mem_flatten.1 q
   obtain ⟨y, q3, rfl⟩ := List.mem_map.1 q1
   rcases List.mem_append.1 q3 with q4 | q4
   ·exact mem_foot (hold.subset (List.mem_append_left _ q4)) q2
   ·rcases List.mem_append.1 q4 with q5 | q5
    ·rw [(List.mem_replicate.1 q5).2] at q2; cases q2
    ·exact mem_foot (List.mem_of_mem_drop q5) q2

end Go.Proofs.YtclhpcfpchpbnaaGreatDoor
