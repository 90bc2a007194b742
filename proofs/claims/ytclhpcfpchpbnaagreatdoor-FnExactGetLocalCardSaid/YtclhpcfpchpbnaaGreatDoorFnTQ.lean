/-
  Contracts of functions of this program, over abstract values. Conditions: as each theorem says.
-/
import Derived.Test.YtclhpcfpchpbnaaGreatDoorFnTP
namespace Go.Proofs.YtclhpcfpchpbnaaGreatDoor
open Go.AW
set_option linter.unusedVariables false
set_option linter.unusedSimpArgs false
set_option maxRecDepth 4000

theorem bin_shr1 (q : Bool) (n : Nat) : binEval .shr q (.val (.int .u64 (n : Int))) (.val (.int .u64 1)) = some (.val (.int .u64 ((n / 2 : Nat) : Int))) := by
  have e : binEval .shr q (.val (.int .u64 (n : Int))) (.val (.int .u64 1)) = some (.val (.int .u64 ((n : Int).fdiv (2 ^ 1)))) := rfl
  rw [e]
  congr 3
  rw [Int.fdiv_eq_ediv_of_nonneg _ (by decide)]
  omega
theorem wrap_u64_in {n : Int} (h1 : 0 ≤ n) (h2 : n ≤ 18446744073709551615) : IntKind.u64.wrap n = n := by
  rw [IntKind.wrap_u64]; omega
def c_slices_BinarySearchFunc_impl_Node : LC :=
 .seq (.ops [⟨some 4, none, .box 137 (.tmp 1)⟩, ⟨some 6, none, .mov (.const (.int .i64 0))⟩, ⟨some 7, none, .mov (.const (.bool false))⟩]) (.seq (.ops [⟨some 12, none, .mov (.tmp 0)⟩, ⟨some 13, none, .lenSl (.tmp 12)⟩,
 ⟨some 8, none, .mov (.tmp 13)⟩]) (.seq (.ops [⟨some 14, none, .mov (.tmp 8)⟩, ⟨some 9, none, .mov (.const (.int .i64 0))⟩, ⟨some 10, none, .mov (.tmp 14)⟩]) (.seq (.block 0 (.loop (.seq (.seq (.ops [⟨some 15, none, .mov
 (.tmp 9)⟩, ⟨some 16, none, .mov (.tmp 10)⟩, ⟨some 17, none, .bin .lss false (.tmp 15) (.tmp 16)⟩]) (.cond (.tmp 17) (.skip) (.exit 0))) (.block 1 (.seq (.ops [⟨some 18, none, .mov (.tmp 9)⟩, ⟨some 19, none, .mov (.tmp
 10)⟩, ⟨some 20, none, .bin .add false (.tmp 18) (.tmp 19)⟩, ⟨some 21, none, .convInt .u64 (.tmp 20)⟩, ⟨some 22, none, .bin .shr false (.tmp 21) (.const (.int .u64 1))⟩, ⟨some 23, none, .convInt .i64 (.tmp 22)⟩, ⟨some 11,
 none, .mov (.tmp 23)⟩]) (.seq (.dops [⟨some 24, none, .mov (.tmp 2)⟩, ⟨some 25, none, .mov (.tmp 0)⟩, ⟨some 26, none, .mov (.tmp 11)⟩, ⟨some 27, none, .indexAddr 3 (.tmp 25) (.tmp 26)⟩, ⟨some 28, none, .load (some 3)
 (.tmp 27)⟩, ⟨some 29, none, .load (some 3) (.tmp 4)⟩, ⟨some 30, none, .callv (.tmp 24) [.tmp 28, .tmp 29]⟩, ⟨some 31, none, .bin .lss false (.tmp 30) (.const (.int .i64 0))⟩]) (.cond (.tmp 31) (.ops [⟨some 32, none, .mov
 (.tmp 11)⟩, ⟨some 33, none, .bin .add false (.tmp 32) (.const (.int .i64 1))⟩, ⟨some 9, none, .mov (.tmp 33)⟩]) (.ops [⟨some 34, none, .mov (.tmp 11)⟩, ⟨some 10, none, .mov (.tmp 34)⟩])))))))) (.seq (.dops [⟨some 35,
 none, .mov (.tmp 9)⟩, ⟨some 36, none, .mov (.tmp 9)⟩, ⟨some 37, none, .mov (.tmp 8)⟩, ⟨some 38, none, .bin .lss false (.tmp 36) (.tmp 37)⟩, ⟨some 39, none, .mov (.tmp 38)⟩, ⟨some 40, (some (39, true)), .mov (.tmp 2)⟩,
 ⟨some 41, (some (39, true)), .mov (.tmp 0)⟩, ⟨some 42, (some (39, true)), .mov (.tmp 9)⟩, ⟨some 43, (some (39, true)), .indexAddr 3 (.tmp 41) (.tmp 42)⟩, ⟨some 44, (some (39, true)), .load (some 3) (.tmp 43)⟩, ⟨some 45,
 (some (39, true)), .load (some 3) (.tmp 4)⟩, ⟨some 46, (some (39, true)), .callv (.tmp 40) [.tmp 44, .tmp 45]⟩, ⟨some 47, (some (39, true)), .bin .eql false (.tmp 46) (.const (.int .i64 0))⟩, ⟨some 48, none, .pick (.tmp
 39) (.tmp 47) (.const (.bool false))⟩, ⟨some 6, none, .mov (.tmp 35)⟩, ⟨some 7, none, .mov (.tmp 48)⟩]) (.ret)))))
def lf_slices_BinarySearchFunc_impl_Node : LF := { np := 3, N := 49, body := c_slices_BinarySearchFunc_impl_Node, res := [.tmp 6, .tmp 7] }
theorem low_slices_BinarySearchFunc_impl_Node : LowF Tryz.prog Tryz.f204 lf_slices_BinarySearchFunc_impl_Node := LowF.mk' (by kernel_rfl) (by kernel_rfl) (by kernel_rfl) (by decide)

theorem slices_BinarySearchFunc_impl_Node_ok (hs : List GNode) (tg : GNode) (c : GNode → GNode → Int) (g m : Nat) (hx : hs.length ≤ 1048576) (hm : m ≤ hs.length) (hpart : ∀ (i : Nat) (h : i < hs.length), (c hs[i] tg < 0 ↔ i < m)) (hc : callable Tryz.prog g = true)
    (hp : ∀ x ∈ hs, ∀ h, PureCall Tryz.prog g [.agg (GNode.cells x), .agg (GNode.cells tg)] h (.val (.int .i64 (c x tg)))) (fd : Bool) (hfd : fd = if h : m < hs.length then decide (c hs[m] tg = 0) else false) (h : List Row) :
    PureCall Tryz.prog 204 [.list 0 3 (hs.map GNode.cells), .agg (GNode.cells tg), .fn g [] []] h (.tup [.val (.int .i64 m), .val (.bool fd)]) := by
  refine pure_fn mixed Tryz.func204 low_slices_BinarySearchFunc_impl_Node rfl rfl ?_ h
  simp only [GNode.cells] at hp
  simp (disch := omega) only [lf_slices_BinarySearchFunc_impl_Node, c_slices_BinarySearchFunc_impl_Node, GNode.cells, go_sem, Nat.reduceEqDiff, Nat.reduceAdd, reduceCtorEq, ↓reduceIte]
  refine Ex_loop (fun n t h => ∃ (i j : Nat), t 0 = .list 0 3 (hs.map GNode.cells) ∧ t 2 = .fn g [] [] ∧ t 4 = .ptr 0 1 0 0 ∧ h[0]? = some ⟨137, 3, [[.val (.string tg.Name), .list 0 1 (tg.Subs.map cStr), .val (.string tg.Value)]]⟩ ∧ t 8 = .val (.int .i64 hs.length) ∧ t 9 = .val (.int .i64 i) ∧ t 10 = .val (.int .i64 j) ∧ n = j - i ∧ i ≤ m ∧ m ≤ j ∧ j ≤ hs.length) hs.length ⟨0, hs.length, rfl, rfl, rfl, rfl, rfl, rfl, rfl, rfl, Nat.zero_le _, hm, Nat.le_refl _⟩ ?_
  rintro J hJ n t h ⟨i, j, t0, t2, t4, o0, t8, t9, t10, rfl, him, hmj, hj⟩
  by_cases hij : i < j
  · have e1 : ((i : Int) + (j : Int)) = ((i + j : Nat) : Int) := by omega
    have hmid : (i + j) / 2 < hs.length := by omega
    have hq := hpart ((i + j) / 2) hmid
    simp (disch := omega) only [t0, t2, t4, o0, t9, t10, hij, e1, wrap_u64_in, bin_shr1, hc, GNode.cells, go_sem, Nat.reduceEqDiff, Nat.reduceAdd, reduceCtorEq, ↓reduceIte]
    first | refine PureCall.q (hp hs[(i + j) / 2] (List.getElem_mem hmid) _) ?_ | refine PureCall.call (hp hs[(i + j) / 2] (List.getElem_mem hmid) _) ?_
    by_cases hl : c hs[(i + j) / 2] tg < 0
    · simp (disch := omega) only [hl, go_sem, Nat.reduceEqDiff, ↓reduceIte]
      exact ⟨j - ((i + j) / 2 + 1), by omega, hJ _ _ _ ⟨(i + j) / 2 + 1, j, by simp [upd, t0], by simp [upd, t2], by simp [upd, t4], o0, by simp [upd, t8], by simp [upd], by simp [upd, t10], rfl, by have := hq.1 hl; omega, hmj, hj⟩⟩
    · have hnm : ¬ ((i + j) / 2 < m) := fun q => hl (hq.2 q)
      simp (disch := omega) only [hl, go_sem, Nat.reduceEqDiff, ↓reduceIte]
      exact ⟨(i + j) / 2 - i, by omega, hJ _ _ _ ⟨i, (i + j) / 2, by simp [upd, t0], by simp [upd, t2], by simp [upd, t4], o0, by simp [upd, t8], by simp [upd, t9], by simp [upd], rfl, him, by omega, by omega⟩⟩
  · have him' : i = m := by omega
    by_cases hml : m < hs.length
    · have hil : i < hs.length := by omega
      subst him'
      rw [dif_pos hml] at hfd
      simp (disch := omega) only [t0, t2, t4, o0, t8, t9, t10, hij, hil, hc, GNode.cells, go_sem, Nat.reduceEqDiff, Nat.reduceAdd, reduceCtorEq, ↓reduceIte]
      first | refine PureCall.q (hp hs[i] (List.getElem_mem hil) _) ?_ | refine PureCall.call (hp hs[i] (List.getElem_mem hil) _) ?_
      simp (disch := omega) only [go_sem]
      rw [hfd]
      exact resolve_tup _ _ rfl
    · have hil : ¬ i < hs.length := by omega
      subst him'
      rw [dif_neg hml] at hfd
      simp (disch := omega) only [t8, t9, t10, hij, hil, go_sem, Nat.reduceEqDiff, ↓reduceIte]
      rw [hfd]
      exact resolve_tup _ _ rfl

theorem nodeLt_trans {a b c : GNode} (h1 : nodeLt a b = true) (h2 : nodeLt b c = true) : nodeLt a c = true := lessP_trans h1 h2
theorem treeGo_sorted : ∀ (r : List GNode) (p : Option GNode), treeGo p r = true → r.Pairwise (fun a b => nodeLt a b = true) ∧ (∀ q, p = some q → ∀ x ∈ r, nodeLt q x = true) ∧ ∀ x ∈ r, nodeOk x = true
  | [], p, _ => ⟨List.Pairwise.nil, fun _ _ x hx => by simp at hx, fun x hx => by simp at hx⟩
  | a :: r, p, h => by
    simp only [treeGo, Bool.and_eq_true] at h
    obtain ⟨h1, h2, h3⟩ := treeGo_sorted r (some a) h.2
    refine ⟨List.pairwise_cons.2 ⟨h2 a rfl, h1⟩, ?_, ?_⟩
    · rintro q rfl x hx
      rcases List.mem_cons.1 hx with e | e
      · subst e; exact h.1.2
      · exact nodeLt_trans h.1.2 (h2 a rfl x e)
    · intro x hx
      rcases List.mem_cons.1 hx with e | e
      · subst e; exact h.1.1
      · exact h3 x e
theorem tree_sorted {x : GTree} (h : treeOk x = true) : x.Nodes.Pairwise (fun a b => nodeLt a b = true) := by
  simp only [treeOk, Bool.and_eq_true] at h
  exact (treeGo_sorted _ _ h.2).1
/-- How many nodes stand ahead of a place. -/
def aheadOf (n : ByteArray) (s : List ByteArray) (a : GNode) : Bool := nodeLt a ⟨n, s, txt []⟩
def posN (ns : List GNode) (n : ByteArray) (s : List ByteArray) : Nat := (ns.takeWhile (aheadOf n s)).length
theorem posN_le (ns : List GNode) (n : ByteArray) (s : List ByteArray) : posN ns n s ≤ ns.length := by
  unfold posN
  exact List.Sublist.length_le (List.takeWhile_sublist _)
theorem takeWhile_part {α : Type} (p : α → Bool) : ∀ (l : List α) (hmono : ∀ (i j : Nat) (hi : i < l.length) (hj : j < l.length), i ≤ j → p l[j] = true → p l[i] = true) (i : Nat) (h : i < l.length), p l[i] = true ↔ i < (l.takeWhile p).length
  | [], _, i, h => by simp at h
  | a :: l, hm, i, h => by
    by_cases q : p a = true
    · rw [List.takeWhile_cons_of_pos q]
      cases i with
      | zero => simp [q]
      | succ i =>
        simp only [List.getElem_cons_succ, List.length_cons, Nat.add_lt_add_iff_right]
        exact takeWhile_part p l (fun a b ha hb hab hp => hm (a + 1) (b + 1) (by simpa using ha) (by simpa using hb) (by omega) hp) i (by simpa using h)
    · rw [List.takeWhile_cons_of_neg q]
      simp only [List.length_nil, Nat.not_lt_zero, iff_false]
      intro hp
      exact q (hm 0 i (by simp) h (Nat.zero_le _) hp)
theorem posN_part {x : GTree} (h : treeOk x = true) (n : ByteArray) (s : List ByteArray) (i : Nat) (hi : i < x.Nodes.length) : aheadOf n s x.Nodes[i] = true ↔ i < posN x.Nodes n s := by
  refine takeWhile_part (aheadOf n s) x.Nodes (fun a b ha hb hab hp => ?_) i hi
  rcases Nat.lt_or_eq_of_le hab with q | q
  · exact nodeLt_trans (List.pairwise_iff_getElem.1 (tree_sorted h) a b ha hb q) hp
  · subst q; exact hp
def atPlace (n : ByteArray) (s : List ByteArray) (a : GNode) : Bool := decide (a.Name = n) && sameSubs a.Subs s
def foundN (ns : List GNode) (n : ByteArray) (s : List ByteArray) : Bool := match ns[posN ns n s]? with | some a => atPlace n s a | none => false
theorem same_iff : ∀ xs ys : List ByteArray, sameSubs xs ys = true ↔ xs = ys
  | [], [] => by simp [sameSubs, all2]
  | [], _ :: _ => by simp [sameSubs, all2]
  | _ :: _, [] => by simp [sameSubs, all2]
  | x :: xs, y :: ys => by
    have := same_iff xs ys
    simp only [sameSubs, all2, Bool.and_eq_true, eqS, decide_eq_true_eq, List.cons.injEq] at this ⊢
    rw [this]
theorem atPlace_zero (n : ByteArray) (s : List ByteArray) (a : GNode) : decide (cmpP a.Name.data.toList (bss a.Subs) n.data.toList (bss s) = 0) = atPlace n s a := by
  rw [Bool.eq_iff_iff, decide_eq_true_eq, cmpP_zero, bs_inj, bss_inj]
  simp [atPlace, same_iff]
theorem ahead_neg (n : ByteArray) (s : List ByteArray) (a : GNode) : cmpP a.Name.data.toList (bss a.Subs) n.data.toList (bss s) < 0 ↔ aheadOf n s a = true := cmpP_neg _ _ _ _
def c_impl_Tree_place_c1 : LC :=
 .seq (.ops [⟨some 2, none, .box 137 (.tmp 0)⟩, ⟨some 3, none, .box 137 (.tmp 1)⟩, ⟨some 4, none, .mov (.const (.int .i64 0))⟩]) (.seq (.ops [⟨some 5, none, .fieldAddr 0 (.tmp 2)⟩, ⟨some 6, none, .load none (.tmp 5)⟩,
 ⟨some 7, none, .fieldAddr 1 (.tmp 2)⟩, ⟨some 8, none, .load none (.tmp 7)⟩, ⟨some 9, none, .fieldAddr 0 (.tmp 3)⟩, ⟨some 10, none, .load none (.tmp 9)⟩, ⟨some 11, none, .fieldAddr 1 (.tmp 3)⟩, ⟨some 12, none, .load none
 (.tmp 11)⟩, ⟨some 13, none, .call 156 [.tmp 6, .tmp 8, .tmp 10, .tmp 12]⟩, ⟨some 4, none, .mov (.tmp 13)⟩]) (.ret))
def lf_impl_Tree_place_c1 : LF := { np := 2, N := 14, body := c_impl_Tree_place_c1, res := [.tmp 4] }
theorem low_impl_Tree_place_c1 : LowF Tryz.prog Tryz.f205 lf_impl_Tree_place_c1 := LowF.mk' (by kernel_rfl) (by kernel_rfl) (by kernel_rfl) (by decide)

theorem impl_Tree_place_c1_ok (x y : GNode) (hx : szList ByteArray.size x.Subs ≤ 1048576) (hy : szList ByteArray.size y.Subs ≤ 1048576) (h : List Row) : PureCall Tryz.prog 205 [.agg (GNode.cells x), .agg (GNode.cells y)] h (.val (.int .i64 (cmpP x.Name.data.toList (bss x.Subs) y.Name.data.toList (bss y.Subs)))) := by
  refine pure_fn mixed Tryz.func205 low_impl_Tree_place_c1 rfl rfl ?_ h
  simp (disch := omega) only [lf_impl_Tree_place_c1, c_impl_Tree_place_c1, GNode.cells, go_sem, Nat.reduceEqDiff, Nat.reduceAdd, ↓reduceIte]
  repeat' (first
    | exact resolve_val _ _
    | simp (disch := omega) only [go_sem, ↓reduceIte]
    | (refine PureCall.call (impl_compareLocations_ok _ _ _ _ hx hy _) ?_)
    | (refine PureCall.q (impl_compareLocations_ok _ _ _ _ hx hy _) ?_)
    | (first | (apply ExC_NT; assumption; intro hb; try simp only [hb]) | (apply ExC_NF; assumption; intro hb; try simp only [hb]) | (apply ExC_T; assumption; intro hb; try simp only [hb]) | (apply ExC_F; assumption; intro hb; try simp only [hb]))
    | ((first | refine ExC_splitN (fun hb => ?_) (fun hb => ?_) | refine ExC_split (fun hb => ?_) (fun hb => ?_)) <;> (try simp only [hb]) <;> (first | have hp : _ < _ := of_decide_eq_true hb | have hp : _ ≤ _ := of_decide_eq_true hb | have hp : ¬ (_ < _) := of_decide_eq_false hb | have hp : ¬ (_ ≤ _) := of_decide_eq_false hb | skip)))

def c_impl_Tree_place : LC :=
 .seq (.ops [⟨some 3, none, .box 47 (.tmp 0)⟩, ⟨some 6, none, .mov (.const (.int .i64 0))⟩, ⟨some 7, none, .mov (.const (.bool false))⟩]) (.seq (.ops [⟨some 8, none, .fieldAddr 0 (.tmp 3)⟩, ⟨some 9, none, .load none (.tmp
 8)⟩, ⟨some 10, none, .mov (.tmp 1)⟩, ⟨some 11, none, .mov (.tmp 2)⟩, ⟨some 12, none, .build (.agg #[.string ⟨#[]⟩, .slice none 0 0, .string ⟨#[]⟩]) [(0, 1), (1, 1), (2, 1)] [(0, .tmp 10), (1, .tmp 11)]⟩, ⟨some 13, none,
 .call 204 [.tmp 9, .tmp 12, .func 205]⟩, ⟨some 14, none, .extract (.tmp 13) 0⟩, ⟨some 15, none, .extract (.tmp 13) 1⟩, ⟨some 6, none, .mov (.tmp 14)⟩, ⟨some 7, none, .mov (.tmp 15)⟩]) (.ret))
def lf_impl_Tree_place : LF := { np := 3, N := 16, body := c_impl_Tree_place, res := [.tmp 6, .tmp 7] }
theorem low_impl_Tree_place : LowF Tryz.prog Tryz.f172 lf_impl_Tree_place := LowF.mk' (by kernel_rfl) (by kernel_rfl) (by kernel_rfl) (by decide)

theorem impl_Tree_place_ok (x : GTree) (n : ByteArray) (s : List ByteArray) (hx : GTree.sz x ≤ 1048576) (hs : szList ByteArray.size s ≤ 1048576) (ht : treeOk x = true) (h : List Row) : PureCall Tryz.prog 172 [.agg (GTree.cells x), .val (.string n), .list 0 1 (s.map cStr)] h (.tup [.val (.int .i64 (posN x.Nodes n s)), .val (.bool (foundN x.Nodes n s))]) := by
  refine pure_fn mixed Tryz.func172 low_impl_Tree_place rfl rfl ?_ h
  have hz := GTree.sz_Nodes hx
  have hm : ∀ a ∈ x.Nodes, GNode.sz a ≤ 1048576 := fun a ha => szList_le hz ha
  have hb : ∀ H, PureCall Tryz.prog 204 [.list 0 3 (x.Nodes.map GNode.cells), .agg [.val (.string n), .list 0 1 (s.map cStr), .val (.string (txt []))], .fn 205 [] []] H (.tup [.val (.int .i64 (posN x.Nodes n s)), .val (.bool (foundN x.Nodes n s))]) := fun H =>
    slices_BinarySearchFunc_impl_Node_ok x.Nodes ⟨n, s, txt []⟩ (fun a b => cmpP a.Name.data.toList (bss a.Subs) b.Name.data.toList (bss b.Subs)) 205 (posN x.Nodes n s) (szList_len hz) (posN_le _ _ _) (fun i hi => (ahead_neg n s _).trans (posN_part ht n s i hi)) (by kernel_rfl) (fun a ha h => impl_Tree_place_c1_ok a ⟨n, s, txt []⟩ (GNode.sz_Subs (hm a ha)) hs h) (foundN x.Nodes n s) (by
      unfold foundN
      by_cases hp : posN x.Nodes n s < x.Nodes.length
      · rw [dif_pos hp, List.getElem?_eq_getElem hp]; exact (atPlace_zero n s _).symm
      · rw [dif_neg hp, List.getElem?_eq_none (by omega)]) H
  simp (disch := omega) only [lf_impl_Tree_place, c_impl_Tree_place, GTree.cells, afill, Option.map_some, go_sem, Nat.reduceEqDiff, Nat.reduceAdd, Nat.reduceLeDiff, ↓reduceIte]
  refine PureCall.call (hb _) ?_
  simp (disch := omega) only [go_sem, Nat.reduceEqDiff, ↓reduceIte]
  exact resolve_tup _ _ rfl
end Go.Proofs.YtclhpcfpchpbnaaGreatDoor
