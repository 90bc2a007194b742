/-
  Contracts of functions of this program, over abstract values. Conditions: as each theorem says.
-/
import Derived.Test.YtkddmakjmjmokaaGreatDoorFnRD
import Derived.Test.YtkddmakjmjmokaaGreatDoorAwC
namespace Go.Proofs.YtkddmakjmjmokaaGreatDoor
open Go.AW
set_option linter.unusedVariables false
set_option linter.unusedSimpArgs false
set_option maxRecDepth 4000

def keyAt (b : GTable) (c v : ByteArray) (n : GNode) : Bool := decide (n.Name = b.Global) && decide ((n.Subs.length : Int) = 4) && starts [txt [105], c, v] n.Subs
def keyN (n : GNode) : ByteArray := n.Subs.getD 3 (txt [])
def keysL (x : GTree) (b : GTable) (c v : ByteArray) : List ByteArray := (x.Nodes.filter (keyAt b c v)).map keyN
def keysR (x : GTree) (b : GTable) (c v : ByteArray) : List ByteArray × Int :=
  if !treeOk x || !tableOk b then ([], 1) else if decide (placeT b.Indexes c < 0) then ([], 3) else if decide (v = txt []) || !cellOk v then ([], 2) else (keysL x b c v, 0)
abbrev keysRes (p : List ByteArray × Int) : AV := .tup [.list 0 1 (p.1.map cStr), .val (.int .i64 p.2)]
theorem keyN_sz (n : GNode) : ByteArray.size (keyN n) ≤ GNode.sz n := by
  unfold keyN
  by_cases h : 3 < n.Subs.length
  · rw [List.getD_eq_getElem?_getD, List.getElem?_eq_getElem h, Option.getD_some]
    have := szList_mem (f := ByteArray.size) (List.getElem_mem h)
    have h2 := GNode.sz_Subs (x := n) (Nat.le_refl _)
    omega
  · rw [List.getD_eq_getElem?_getD, List.getElem?_eq_none (by omega), Option.getD_none]
    simp [txt_size]
theorem keysL_sz (b : GTable) (c v : ByteArray) : ∀ ns : List GNode, szList ByteArray.size ((ns.filter (keyAt b c v)).map keyN) ≤ szList GNode.sz ns
  | [] => by simp [szList, sumOf]
  | n :: ns => by
    have ih := keysL_sz b c v ns
    have hn := keyN_sz n
    by_cases h : keyAt b c v n = true
    · simp only [List.filter_cons, h, if_true, List.map_cons]
      simp only [szList, sumOf, List.length_cons] at ih ⊢
      omega
    · simp only [List.filter_cons, h, if_false, Bool.false_eq_true]
      simp only [szList, sumOf, List.length_cons] at ih ⊢
      omega
theorem keysR_sz {x : GTree} (hx : GTree.sz x ≤ 1048576) (b : GTable) (c v : ByteArray) : szList ByteArray.size (keysR x b c v).1 ≤ 1048576 := by
  have := keysL_sz b c v x.Nodes
  have h2 := GTree.sz_Nodes hx
  unfold keysR
  split
  · simp [szList, sumOf]
  split
  · simp [szList, sumOf]
  split
  · simp [szList, sumOf]
  · simp only [keysL]; omega
theorem kl_succ {p : GNode → Bool} {ns : List GNode} {k : Nat} (hlt : k < ns.length) (h : p ns[k] = true) : ((ns.take (k + 1)).filter p).map keyN = ((ns.take k).filter p).map keyN ++ [keyN ns[k]] := by
  rw [List.take_succ_eq_append_getElem hlt, List.filter_append, List.map_append]; simp only [List.filter_cons, List.filter_nil, h, if_true, List.map_cons, List.map_nil]
theorem kl_same {p : GNode → Bool} {ns : List GNode} {k : Nat} (hlt : k < ns.length) (h : p ns[k] = false) : ((ns.take (k + 1)).filter p).map keyN = ((ns.take k).filter p).map keyN := by
  rw [List.take_succ_eq_append_getElem hlt, List.filter_append, List.map_append]; simp only [List.filter_cons, List.filter_nil, h, Bool.false_eq_true, if_false, List.map_nil, List.append_nil]
theorem kl_len (p : GNode → Bool) (ns : List GNode) (k : Nat) : (((ns.take k).filter p).map keyN).length ≤ k := by
  rw [List.length_map]
  exact Nat.le_trans (List.length_filter_le _ _) (by simp; omega)
theorem starts3 {xs : List ByteArray} (h : xs.length = 4) (a c v : ByteArray) : starts [a, c, v] xs = (decide (xs[0] = a) && decide (xs[1] = c) && decide (xs[2] = v)) := by
  match xs, h with
  | [x0, x1, x2, x3], _ =>
    have e : ∀ p q : ByteArray, eqS p q = decide (q = p) := fun p q => by
      simp only [eqS]; by_cases h : p = q
      · subst h; simp
      · simp [h, Ne.symm h]
    simp [starts, all2, e, Bool.and_assoc]
theorem keysStr {lo l : Nat} {H : List Row} {E : Tag} {out : List ByteArray} (hl : H[l]? = some ⟨E, 1, out.map cStr⟩) (hb : lo ≤ l) : FreshB lo (l + 1) H (.own l out.length) (.list 0 1 (out.map cStr)) :=
  FreshB.mkown (lo := l + 1) (hi := l + 1) (FreshLLB.ofVals _ _ _ _ (by
    intro e he c hc
    obtain ⟨x, _, q⟩ := List.mem_map.1 he; subst q
    simp only [cStr, List.mem_singleton] at hc
    exact ⟨_, hc⟩)) hl (by simp) hb (Nat.lt_succ_self _) (Nat.le_refl _)
theorem keys_cells (xs : List ByteArray) : ∀ e ∈ xs.map cStr, e.all AV.cell = true := by
  intro e he
  obtain ⟨x, _, q⟩ := List.mem_map.1 he; subst q; rfl
theorem keys_app (xs : List ByteArray) (y : ByteArray) : xs.map cStr ++ [[AV.val (.string y)]] = (xs ++ [y]).map cStr := by simp
def c_slices_Contains_string : LC :=
 .seq (.ops [⟨some 4, none, .mov (.const (.bool false))⟩]) (.seq (.ops [⟨some 5, none, .mov (.tmp 0)⟩, ⟨some 6, none, .mov (.tmp 1)⟩, ⟨some 7, none, .call 47 [.tmp 5, .tmp 6]⟩, ⟨some 8, none, .bin .geq false (.tmp 7)
 (.const (.int .i64 0))⟩, ⟨some 4, none, .mov (.tmp 8)⟩]) (.ret))
def lf_slices_Contains_string : LF := { np := 2, N := 9, body := c_slices_Contains_string, res := [.tmp 4] }
theorem low_slices_Contains_string : LowF Tryz.prog Tryz.f28 lf_slices_Contains_string := LowF.mk' (by kernel_rfl) (by kernel_rfl) (by kernel_rfl) (by decide)

def c_impl_keysBy : LC :=
 .seq (.ops [⟨some 4, none, .box 34 (.tmp 0)⟩, ⟨some 5, none, .box 36 (.tmp 1)⟩, ⟨some 8, none, .mov (.const (.slice none 0 0))⟩]) (.seq (.ops [⟨some 13, none, .buildSlice 9 1 (.string ⟨#[]⟩) 0 []⟩, ⟨some 14, none, .mov
 (.tmp 2)⟩, ⟨some 15, none, .mov (.tmp 3)⟩, ⟨some 16, none, .buildSlice 9 1 (.string ⟨#[]⟩) 3 [(0, .const (.string ⟨#[105]⟩)), (1, .tmp 14), (2, .tmp 15)]⟩, ⟨some 9, none, .mov (.tmp 13)⟩, ⟨some 10, none, .mov (.tmp 16)⟩])
 (.seq (.seq (.ops [⟨some 17, none, .fieldAddr 0 (.tmp 4)⟩, ⟨some 18, none, .load none (.tmp 17)⟩, ⟨some 19, none, .lenSl (.tmp 18)⟩, ⟨some 20, none, .mov (.const (.int .i64 0))⟩]) (.block 0 (.loop (.seq (.ops [⟨some 21,
 none, .bin .lss false (.tmp 20) (.tmp 19)⟩]) (.seq (.cond (.tmp 21) (.skip) (.exit 0)) (.seq (.block 1 (.seq (.ops [⟨some 22, none, .indexAddr 3 (.tmp 18) (.tmp 20)⟩, ⟨some 23, none, .load (some 3) (.tmp 22)⟩, ⟨some 12,
 none, .alloc 60 (.agg #[.string ⟨#[]⟩, .slice none 0 0, .string ⟨#[]⟩])⟩, ⟨none, none, .store 3 (.tmp 12) (.tmp 23)⟩]) (.seq (.ops [⟨some 24, none, .fieldAddr 0 (.tmp 12)⟩, ⟨some 25, none, .load none (.tmp 24)⟩, ⟨some 26,
 none, .fieldAddr 1 (.tmp 5)⟩, ⟨some 27, none, .load none (.tmp 26)⟩, ⟨some 28, none, .bin .eql false (.tmp 25) (.tmp 27)⟩, ⟨some 29, none, .mov (.tmp 28)⟩, ⟨some 30, (some (29, true)), .fieldAddr 1 (.tmp 12)⟩, ⟨some 31,
 (some (29, true)), .load none (.tmp 30)⟩, ⟨some 32, (some (29, true)), .lenSl (.tmp 31)⟩, ⟨some 33, (some (29, true)), .bin .eql false (.tmp 32) (.const (.int .i64 4))⟩, ⟨some 34, none, .pick (.tmp 29) (.tmp 33) (.const
 (.bool false))⟩, ⟨some 35, none, .mov (.tmp 34)⟩, ⟨some 36, (some (35, true)), .fieldAddr 1 (.tmp 12)⟩, ⟨some 37, (some (35, true)), .load none (.tmp 36)⟩, ⟨some 38, (some (35, true)), .mov (.tmp 10)⟩, ⟨some 39, (some
 (35, true)), .call 50 [.tmp 37, .tmp 38]⟩, ⟨some 40, none, .pick (.tmp 35) (.tmp 39) (.const (.bool false))⟩]) (.cond (.tmp 40) (.ops [⟨some 41, none, .mov (.tmp 9)⟩, ⟨some 42, none, .fieldAddr 1 (.tmp 12)⟩, ⟨some 43,
 none, .load none (.tmp 42)⟩, ⟨some 44, none, .indexAddr 1 (.tmp 43) (.const (.int .i64 3))⟩, ⟨some 45, none, .load none (.tmp 44)⟩, ⟨some 46, none, .buildSlice 9 1 (.string ⟨#[]⟩) 1 [(0, .tmp 45)]⟩, ⟨some 47, none,
 .append 9 1 16 (.tmp 41) (.tmp 46)⟩, ⟨some 9, none, .mov (.tmp 47)⟩]) (.skip))))) (.ops [⟨some 48, none, .bin .add false (.tmp 20) (.const (.int .i64 1))⟩, ⟨some 20, none, .mov (.tmp 48)⟩]))))))) (.seq (.ops [⟨some 49,
 none, .mov (.tmp 9)⟩, ⟨some 8, none, .mov (.tmp 49)⟩]) (.ret))))
def lf_impl_keysBy : LF := { np := 4, N := 50, body := c_impl_keysBy, res := [.tmp 8] }
theorem low_impl_keysBy : LowF Tryz.prog Tryz.f30 lf_impl_keysBy := LowF.mk' (by kernel_rfl) (by kernel_rfl) (by kernel_rfl) (by decide)

def c_spec_l29Keys : LC :=
 .seq (.ops [⟨some 4, none, .box 34 (.tmp 0)⟩, ⟨some 5, none, .box 36 (.tmp 1)⟩, ⟨some 8, none, .mov (.const (.slice none 0 0))⟩]) (.seq (.ops [⟨some 12, none, .buildSlice 9 1 (.string ⟨#[]⟩) 0 []⟩, ⟨some 9, none, .mov
 (.tmp 12)⟩]) (.seq (.seq (.ops [⟨some 10, none, .mov (.const (.int .i64 0))⟩]) (.block 0 (.loop (.seq (.seq (.ops [⟨some 13, none, .mov (.tmp 10)⟩, ⟨some 14, none, .fieldAddr 0 (.tmp 4)⟩, ⟨some 15, none, .load none (.tmp
 14)⟩, ⟨some 16, none, .lenSl (.tmp 15)⟩, ⟨some 17, none, .bin .lss false (.tmp 13) (.tmp 16)⟩]) (.cond (.tmp 17) (.skip) (.exit 0))) (.seq (.block 1 (.seq (.ops [⟨some 20, none, .fieldAddr 0 (.tmp 4)⟩, ⟨some 21, none,
 .load none (.tmp 20)⟩, ⟨some 22, none, .mov (.tmp 10)⟩, ⟨some 23, none, .indexAddr 3 (.tmp 21) (.tmp 22)⟩, ⟨some 24, none, .load (some 3) (.tmp 23)⟩, ⟨some 11, none, .alloc 60 (.agg #[.string ⟨#[]⟩, .slice none 0 0,
 .string ⟨#[]⟩])⟩, ⟨none, none, .store 3 (.tmp 11) (.tmp 24)⟩]) (.seq (.ops [⟨some 25, none, .fieldAddr 0 (.tmp 11)⟩, ⟨some 26, none, .load none (.tmp 25)⟩, ⟨some 27, none, .fieldAddr 1 (.tmp 5)⟩, ⟨some 28, none, .load
 none (.tmp 27)⟩, ⟨some 29, none, .bin .eql false (.tmp 26) (.tmp 28)⟩, ⟨some 30, none, .mov (.tmp 29)⟩, ⟨some 31, (some (30, true)), .fieldAddr 1 (.tmp 11)⟩, ⟨some 32, (some (30, true)), .load none (.tmp 31)⟩, ⟨some 33,
 (some (30, true)), .lenSl (.tmp 32)⟩, ⟨some 34, (some (30, true)), .bin .eql false (.tmp 33) (.const (.int .i64 4))⟩, ⟨some 35, none, .pick (.tmp 30) (.tmp 34) (.const (.bool false))⟩, ⟨some 36, none, .mov (.tmp 35)⟩,
 ⟨some 37, (some (36, true)), .fieldAddr 1 (.tmp 11)⟩, ⟨some 38, (some (36, true)), .load none (.tmp 37)⟩, ⟨some 39, (some (36, true)), .indexAddr 1 (.tmp 38) (.const (.int .i64 0))⟩, ⟨some 40, (some (36, true)), .load
 none (.tmp 39)⟩, ⟨some 41, (some (36, true)), .bin .eql false (.tmp 40) (.const (.string ⟨#[105]⟩))⟩, ⟨some 42, none, .pick (.tmp 36) (.tmp 41) (.const (.bool false))⟩, ⟨some 43, none, .mov (.tmp 42)⟩, ⟨some 44, (some
 (43, true)), .fieldAddr 1 (.tmp 11)⟩, ⟨some 45, (some (43, true)), .load none (.tmp 44)⟩, ⟨some 46, (some (43, true)), .indexAddr 1 (.tmp 45) (.const (.int .i64 1))⟩, ⟨some 47, (some (43, true)), .load none (.tmp 46)⟩,
 ⟨some 48, (some (43, true)), .mov (.tmp 2)⟩, ⟨some 49, (some (43, true)), .bin .eql false (.tmp 47) (.tmp 48)⟩, ⟨some 50, none, .pick (.tmp 43) (.tmp 49) (.const (.bool false))⟩, ⟨some 51, none, .mov (.tmp 50)⟩, ⟨some 52,
 (some (51, true)), .fieldAddr 1 (.tmp 11)⟩, ⟨some 53, (some (51, true)), .load none (.tmp 52)⟩, ⟨some 54, (some (51, true)), .indexAddr 1 (.tmp 53) (.const (.int .i64 2))⟩, ⟨some 55, (some (51, true)), .load none (.tmp
 54)⟩, ⟨some 56, (some (51, true)), .mov (.tmp 3)⟩, ⟨some 57, (some (51, true)), .bin .eql false (.tmp 55) (.tmp 56)⟩, ⟨some 58, none, .pick (.tmp 51) (.tmp 57) (.const (.bool false))⟩]) (.cond (.tmp 58) (.ops [⟨some 59,
 none, .mov (.tmp 9)⟩, ⟨some 60, none, .fieldAddr 1 (.tmp 11)⟩, ⟨some 61, none, .load none (.tmp 60)⟩, ⟨some 62, none, .indexAddr 1 (.tmp 61) (.const (.int .i64 3))⟩, ⟨some 63, none, .load none (.tmp 62)⟩, ⟨some 64, none,
 .buildSlice 9 1 (.string ⟨#[]⟩) 1 [(0, .tmp 63)]⟩, ⟨some 65, none, .append 9 1 16 (.tmp 59) (.tmp 64)⟩, ⟨some 9, none, .mov (.tmp 65)⟩]) (.skip))))) (.ops [⟨some 18, none, .mov (.tmp 10)⟩, ⟨some 19, none, .bin .add false
 (.tmp 18) (.const (.int .i64 1))⟩, ⟨some 10, none, .mov (.tmp 19)⟩])))))) (.seq (.ops [⟨some 66, none, .mov (.tmp 9)⟩, ⟨some 8, none, .mov (.tmp 66)⟩]) (.ret))))
def lf_spec_l29Keys : LF := { np := 4, N := 67, body := c_spec_l29Keys, res := [.tmp 8] }
theorem low_spec_l29Keys : LowF Tryz.prog Tryz.f23 lf_spec_l29Keys := LowF.mk' (by kernel_rfl) (by kernel_rfl) (by kernel_rfl) (by decide)

theorem slices_Contains_string_ok (xs : List ByteArray) (v : ByteArray) (hx : xs.length ≤ 1048576) (h : List Row) : PureCall Tryz.prog 28 [.list 0 1 (xs.map cStr), .val (.string v)] h (.val (.bool (!decide (placeT xs v < 0)))) := by
  refine pure_fn mixed Tryz.func28 low_slices_Contains_string rfl rfl ?_ h
  simp (disch := omega) only [lf_slices_Contains_string, c_slices_Contains_string, go_sem, Nat.reduceEqDiff, reduceCtorEq, ↓reduceIte]
  refine PureCall.call (slices_Index_string_ok xs v hx _) ?_
  by_cases q : placeT xs v < 0
  · have q' : (0 ≤ placeT xs v) = False := eq_false (by omega)
    simp (disch := omega) only [q', go_sem, ↓reduceIte]
    exact resolve_bool (by simp [q])
  · have q' : (0 ≤ placeT xs v) = True := eq_true (by omega)
    simp (disch := omega) only [q', go_sem, ↓reduceIte]
    exact resolve_bool (by simp [q])
theorem impl_keysBy_fresh (x : GTree) (b : GTable) (c v : ByteArray) (hx : GTree.sz x ≤ 1048576) : FreshCall Tryz.prog 30 [.agg (GTree.cells x), .agg (GTable.cells b), .val (.string c), .val (.string v)] (.list 0 1 ((keysL x b c v).map cStr)) (fun a => ∃ l, a = .own l (keysL x b c v).length) := by
  refine fresh_fn2 mixed Tryz.func30 low_impl_keysBy rfl (fun h0 => ?_)
  have hlx := szList_len (GTree.sz_Nodes hx)
  have hmem : ∀ n ∈ x.Nodes, GNode.sz n ≤ 1048576 := fun n hn => szList_le (GTree.sz_Nodes hx) hn
  simp (disch := (first | omega | (simp only [List.length_set, List.length_append, List.length_cons, List.length_nil]; done) | (simp only [List.length_set, List.length_append, List.length_cons, List.length_nil]; omega))) only [look_new, go_sem, Nat.reduceEqDiff, Nat.reduceAdd, ↓reduceIte, lf_impl_keysBy, c_impl_keysBy, GTree.cells, GTable.cells]
  refine ⟨by simp, ?_⟩
  refine Ex_loop (fun m t h => ∃ (k : Nat), t 10 = .own (h0.length + 3) 3 ∧ t 18 = .list 0 3 (x.Nodes.map GNode.cells) ∧ t 19 = .val (.int .i64 x.Nodes.length) ∧ t 5 = .ptr (h0.length + 1) 1 0 0 ∧ t 9 = .own (h0.length + 2) (((x.Nodes.take k).filter (keyAt b c v)).map keyN).length ∧ t 20 = .val (.int .i64 k) ∧ More h0 h ∧ h[h0.length]? = some ⟨.ty 34, 1, [[.list 0 3 (x.Nodes.map GNode.cells)]]⟩ ∧ h[h0.length + 1]? = some ⟨.ty 36, 4, [[.val (.string b.Name), .val (.string b.Global), .list 0 1 (b.Columns.map cStr), .list 0 1 (b.Indexes.map cStr)]]⟩ ∧ h[h0.length + 2]? = some ⟨.ty 9, 1, (((x.Nodes.take k).filter (keyAt b c v)).map keyN).map cStr⟩ ∧ h[h0.length + 3]? = some ⟨.ty 9, 1, [txt [105], c, v].map cStr⟩ ∧ m = x.Nodes.length - k ∧ k ≤ x.Nodes.length) x.Nodes.length ?_ ?_
  · exact ⟨0, rfl, rfl, rfl, rfl, rfl, rfl, More.app _ _, by rw [getA0]; rfl, by rw [getAk]; rfl, by rw [getAk]; rfl, by rw [getAk]; rfl, rfl, Nat.zero_le _⟩
  rintro J hJ m t h ⟨k, t10, t18, t19, t5, t9, tk, mo, o0, o1, o2, o3, rfl, hk⟩
  have hll := (List.getElem?_eq_some_iff.1 o2).1
  have gl := kl_len (keyAt b c v) x.Nodes k
  by_cases hlt : k < x.Nodes.length
  case neg =>
    have e : k = x.Nodes.length := by omega
    subst e
    rw [List.take_length] at t9 o2
    simp (disch := (first | omega | (simp only [List.length_set, List.length_append, List.length_cons, List.length_nil]; done) | (simp only [List.length_set, List.length_append, List.length_cons, List.length_nil]; omega))) only [go_sem, Nat.reduceEqDiff, ↓reduceIte, t19, t9, tk, hlt]
    have hkl : (keysL x b c v).length = (x.Nodes.filter (keyAt b c v)).length := by simp [keysL]
    refine ⟨⟨mo, ?_⟩, _, by rw [hkl]⟩
    rw [← hkl]
    exact (keysStr o2 (by omega)).widen (Nat.le_refl _) hll
  have hsl := szList_len (GNode.sz_Subs (hmem _ (List.getElem_mem hlt)))
  have skip : keyAt b c v x.Nodes[k] = false → ∀ t' h', t' 10 = .own (h0.length + 3) 3 → t' 18 = .list 0 3 (x.Nodes.map GNode.cells) → t' 19 = .val (.int .i64 x.Nodes.length) → t' 5 = .ptr (h0.length + 1) 1 0 0 → t' 9 = t 9 → t' 20 = .val (.int .i64 (k + 1 : Nat)) → More h h' → ∃ m, m < x.Nodes.length - k ∧ J m t' h' := by
    intro q t' h' e10 e18 e19 e5 e9 ek mm
    refine ⟨x.Nodes.length - (k + 1), by omega, hJ _ _ _ ⟨k + 1, e10, e18, e19, e5, by rw [e9, t9, kl_same hlt q], ek, mo.trans mm, mm.at o0, mm.at o1, by rw [kl_same hlt q]; exact mm.at o2, mm.at o3, rfl, by omega⟩⟩
  by_cases h1 : x.Nodes[k].Name = b.Global
  case neg =>
    have h1' : (x.Nodes[k].Name = b.Global) = False := eq_false h1
    simp (disch := (first | omega | (simp only [List.length_set, List.length_append, List.length_cons, List.length_nil]; done) | (simp only [List.length_set, List.length_append, List.length_cons, List.length_nil]; omega))) only [look_old, look_new, go_sem, Nat.reduceEqDiff, Nat.reduceAdd, ↓reduceIte, t18, t19, t5, tk, o1, hlt, h1', GNode.cells, wrap_in]
    exact skip (by simp [keyAt, h1]) _ _ (by simp [upd, t10]) (by simp [upd, t18]) (by simp [upd, t19]) (by simp [upd, t5]) (by simp [upd]) (by simp [upd]) (by first | exact More.app _ _ | exact (More.app _ _).set (by omega))
  have h1' : (x.Nodes[k].Name = b.Global) = True := eq_true h1
  by_cases h2 : (x.Nodes[k].Subs.length : Int) = 4
  case neg =>
    have h2' : ((x.Nodes[k].Subs.length : Int) = 4) = False := eq_false h2
    simp (disch := (first | omega | (simp only [List.length_set, List.length_append, List.length_cons, List.length_nil]; done) | (simp only [List.length_set, List.length_append, List.length_cons, List.length_nil]; omega))) only [look_old, look_new, go_sem, Nat.reduceEqDiff, Nat.reduceAdd, ↓reduceIte, t18, t19, t5, tk, o1, hlt, h1', h2', GNode.cells, wrap_in]
    exact skip (by simp [keyAt, h2]) _ _ (by simp [upd, t10]) (by simp [upd, t18]) (by simp [upd, t19]) (by simp [upd, t5]) (by simp [upd]) (by simp [upd]) (by first | exact More.app _ _ | exact (More.app _ _).set (by omega))
  have h2' : ((x.Nodes[k].Subs.length : Int) = 4) = True := eq_true h2
  have h2n : x.Nodes[k].Subs.length = 4 := by omega
  have hk3 : keyN x.Nodes[k] = x.Nodes[k].Subs[3] := by
    unfold keyN; rw [List.getD_eq_getElem?_getD, List.getElem?_eq_getElem (by omega), Option.getD_some]
  simp (disch := (first | omega | (simp only [List.length_set, List.length_append, List.length_cons, List.length_nil]; done) | (simp only [List.length_set, List.length_append, List.length_cons, List.length_nil]; omega))) only [look_old, look_new, go_sem, Nat.reduceEqDiff, Nat.reduceAdd, ↓reduceIte, t10, t18, t19, t5, tk, o1, hlt, h1', h2', GNode.cells]
  have hl3 := (List.getElem?_eq_some_iff.1 o3).1
  have hbg := PureCall.own (H := h ++ [(⟨.ty 60, 3, [[.val (.string x.Nodes[k].Name), .list 0 1 (x.Nodes[k].Subs.map cStr), .val (.string x.Nodes[k].Value)]]⟩ : Row)]) (fun h => impl_begins_ok x.Nodes[k].Subs [txt [105], c, v] hsl h) (ArgsOwn.cons (ArgOwn.same rfl) (ArgsOwn.cons (keysStr (out := [txt [105], c, v]) (get_old o3) (Nat.le_refl _)).arg ArgsOwn.nil))
  first | refine PureCall.q hbg ?_ | refine PureCall.call hbg ?_
  cases hst : starts [txt [105], c, v] x.Nodes[k].Subs
  · simp (disch := (first | omega | (simp only [List.length_set, List.length_append, List.length_cons, List.length_nil]; done) | (simp only [List.length_set, List.length_append, List.length_cons, List.length_nil]; omega))) only [go_sem, Nat.reduceEqDiff, ↓reduceIte, tk, wrap_in]
    exact skip (by simp [keyAt, hst]) _ _ (by simp [upd, t10]) (by simp [upd, t18]) (by simp [upd, t19]) (by simp [upd, t5]) (by simp [upd]) (by simp [upd]) (by first | exact More.app _ _ | exact (More.app _ _).set (by omega))
  have hkT : keyAt b c v x.Nodes[k] = true := by simp only [keyAt, decide_eq_true h1, decide_eq_true h2, Bool.true_and, hst]
  have gl' : ((x.Nodes.take k).filter (keyAt b c v)).length ≤ k := by simpa using gl
  simp (disch := (first | omega | (simp only [List.length_set, List.length_append, List.length_cons, List.length_nil]; done) | (simp only [List.length_set, List.length_append, List.length_cons, List.length_nil]; omega))) only [look_old, look_new, look_new1, go_sem, Nat.reduceEqDiff, Nat.reduceLeDiff, Int.reduceLE, Int.reduceToNat, ↓reduceIte, t9, tk, o2, wrap_in]
  refine ⟨by omega, by omega, x.Nodes.length - (k + 1), by omega, hJ _ _ _ ⟨k + 1, by simp [upd, t10], by simp [upd, t18], by simp [upd, t19], by simp [upd, t5], by rw [kl_succ hlt hkT]; simp [upd], by simp [upd], ?_, ?_, ?_, ?_, ?_, rfl, by omega⟩⟩
  · exact (mo.add _).set (by omega)
  · rw [look_ne (by omega), look_old (by omega)]; exact o0
  · rw [look_ne (by omega), look_old (by omega)]; exact o1
  · rw [look_hit (by simp; omega), kl_succ hlt hkT, hk3, ← keys_app]
  · rw [look_ne (by omega), look_old (by omega)]; exact o3

theorem spec_l29Keys_fresh (x : GTree) (b : GTable) (c v : ByteArray) (hx : GTree.sz x ≤ 1048576) : FreshCall Tryz.prog 23 [.agg (GTree.cells x), .agg (GTable.cells b), .val (.string c), .val (.string v)] (.list 0 1 ((keysL x b c v).map cStr)) (fun a => ∃ l, a = .own l (keysL x b c v).length) := by
  refine fresh_fn2 mixed Tryz.func23 low_spec_l29Keys rfl (fun h0 => ?_)
  have hlx := szList_len (GTree.sz_Nodes hx)
  have hmem : ∀ n ∈ x.Nodes, GNode.sz n ≤ 1048576 := fun n hn => szList_le (GTree.sz_Nodes hx) hn
  simp (disch := (first | omega | (simp only [List.length_set, List.length_append, List.length_cons, List.length_nil]; done) | (simp only [List.length_set, List.length_append, List.length_cons, List.length_nil]; omega))) only [go_sem, Nat.reduceEqDiff, Nat.reduceAdd, ↓reduceIte, lf_spec_l29Keys, c_spec_l29Keys, GTree.cells, GTable.cells]
  refine Ex_loop (fun m t h => ∃ (k : Nat), t 4 = .ptr h0.length 1 0 0 ∧ t 2 = .val (.string c) ∧ t 3 = .val (.string v) ∧ t 5 = .ptr (h0.length + 1) 1 0 0 ∧ t 9 = .own (h0.length + 2) (((x.Nodes.take k).filter (keyAt b c v)).map keyN).length ∧ t 10 = .val (.int .i64 k) ∧ More h0 h ∧ h[h0.length]? = some ⟨.ty 34, 1, [[.list 0 3 (x.Nodes.map GNode.cells)]]⟩ ∧ h[h0.length + 1]? = some ⟨.ty 36, 4, [[.val (.string b.Name), .val (.string b.Global), .list 0 1 (b.Columns.map cStr), .list 0 1 (b.Indexes.map cStr)]]⟩ ∧ h[h0.length + 2]? = some ⟨.ty 9, 1, (((x.Nodes.take k).filter (keyAt b c v)).map keyN).map cStr⟩ ∧  m = x.Nodes.length - k ∧ k ≤ x.Nodes.length) x.Nodes.length ?_ ?_
  · exact ⟨0, rfl, rfl, rfl, rfl, rfl, rfl, More.app _ _, by rw [getA0]; rfl, by rw [getAk]; rfl, by rw [getAk]; rfl, rfl, Nat.zero_le _⟩
  rintro J hJ m t h ⟨k, t4, t2, t3, t5, t9, tk, mo, o0, o1, o2,  rfl, hk⟩
  have hll := (List.getElem?_eq_some_iff.1 o2).1
  have gl := kl_len (keyAt b c v) x.Nodes k
  by_cases hlt : k < x.Nodes.length
  case neg =>
    have e : k = x.Nodes.length := by omega
    subst e
    rw [List.take_length] at t9 o2
    simp (disch := (first | omega | (simp only [List.length_set, List.length_append, List.length_cons, List.length_nil]; done) | (simp only [List.length_set, List.length_append, List.length_cons, List.length_nil]; omega))) only [go_sem, Nat.reduceEqDiff, ↓reduceIte, t4, t9, tk, o0, hlt]
    have hkl : (keysL x b c v).length = (x.Nodes.filter (keyAt b c v)).length := by simp [keysL]
    refine ⟨⟨mo, ?_⟩, _, by rw [hkl]⟩
    rw [← hkl]
    exact (keysStr o2 (by omega)).widen (Nat.le_refl _) hll
  have hsl := szList_len (GNode.sz_Subs (hmem _ (List.getElem_mem hlt)))
  have skip : keyAt b c v x.Nodes[k] = false → ∀ t' h', t' 4 = .ptr h0.length 1 0 0 → t' 2 = .val (.string c) → t' 3 = .val (.string v) → t' 5 = .ptr (h0.length + 1) 1 0 0 → t' 9 = t 9 → t' 10 = .val (.int .i64 (k + 1 : Nat)) → More h h' → ∃ m, m < x.Nodes.length - k ∧ J m t' h' := by
    intro q t' h' e4 e2 e3 e5 e9 ek mm
    refine ⟨x.Nodes.length - (k + 1), by omega, hJ _ _ _ ⟨k + 1, e4, e2, e3, e5, by rw [e9, t9, kl_same hlt q], ek, mo.trans mm, mm.at o0, mm.at o1, by rw [kl_same hlt q]; exact mm.at o2,  rfl, by omega⟩⟩
  by_cases h1 : x.Nodes[k].Name = b.Global
  case neg =>
    have h1' : (x.Nodes[k].Name = b.Global) = False := eq_false h1
    simp (disch := (first | omega | (simp only [List.length_set, List.length_append, List.length_cons, List.length_nil]; done) | (simp only [List.length_set, List.length_append, List.length_cons, List.length_nil]; omega))) only [look_old, look_new, go_sem, Nat.reduceEqDiff, Nat.reduceAdd, ↓reduceIte, t4, t5, tk, o0, o1, hlt, h1', GNode.cells, wrap_in]
    exact skip (by simp [keyAt, h1]) _ _ (by simp [upd, t4]) (by simp [upd, t2]) (by simp [upd, t3]) (by simp [upd, t5]) (by simp [upd]) (by simp [upd]) (by first | exact More.app _ _ | exact (More.app _ _).set (by omega))
  have h1' : (x.Nodes[k].Name = b.Global) = True := eq_true h1
  by_cases h2 : (x.Nodes[k].Subs.length : Int) = 4
  case neg =>
    have h2' : ((x.Nodes[k].Subs.length : Int) = 4) = False := eq_false h2
    simp (disch := (first | omega | (simp only [List.length_set, List.length_append, List.length_cons, List.length_nil]; done) | (simp only [List.length_set, List.length_append, List.length_cons, List.length_nil]; omega))) only [look_old, look_new, go_sem, Nat.reduceEqDiff, Nat.reduceAdd, ↓reduceIte, t4, t5, tk, o0, o1, hlt, h1', h2', GNode.cells, wrap_in]
    exact skip (by simp [keyAt, h2]) _ _ (by simp [upd, t4]) (by simp [upd, t2]) (by simp [upd, t3]) (by simp [upd, t5]) (by simp [upd]) (by simp [upd]) (by first | exact More.app _ _ | exact (More.app _ _).set (by omega))
  have h2' : ((x.Nodes[k].Subs.length : Int) = 4) = True := eq_true h2
  have h2n : x.Nodes[k].Subs.length = 4 := by omega
  have hk3 : keyN x.Nodes[k] = x.Nodes[k].Subs[3] := by
    unfold keyN; rw [List.getD_eq_getElem?_getD, List.getElem?_eq_getElem (by omega), Option.getD_some]
  have hst := starts3 h2n (txt [105]) c v
  have hkA : keyAt b c v x.Nodes[k] = (decide (x.Nodes[k].Subs[0] = txt [105]) && decide (x.Nodes[k].Subs[1] = c) && decide (x.Nodes[k].Subs[2] = v)) := by simp only [keyAt, decide_eq_true h1, decide_eq_true h2, Bool.true_and, hst]
  by_cases g0 : x.Nodes[k].Subs[0] = txt [105]
  case neg =>
    have g0' : (x.Nodes[k].Subs[0] = txt [105]) = False := eq_false g0
    simp (disch := (first | omega | (simp only [List.length_set, List.length_append, List.length_cons, List.length_nil]; done) | (simp only [List.length_set, List.length_append, List.length_cons, List.length_nil]; omega))) only [look_old, look_new, go_sem, Nat.reduceEqDiff, Nat.reduceAdd, Int.reduceLE, ↓reduceIte, t4, t5, tk, o0, o1, hlt, h1', h2', g0', GNode.cells, wrap_in]
    exact skip (by rw [hkA]; simp [g0]) _ _ (by simp [upd, t4]) (by simp [upd, t2]) (by simp [upd, t3]) (by simp [upd, t5]) (by simp [upd]) (by simp [upd]) (by first | exact More.app _ _ | exact (More.app _ _).set (by omega))
  have g0' : (x.Nodes[k].Subs[0] = txt [105]) = True := eq_true g0
  by_cases g1 : x.Nodes[k].Subs[1] = c
  case neg =>
    have g1' : (x.Nodes[k].Subs[1] = c) = False := eq_false g1
    simp (disch := (first | omega | (simp only [List.length_set, List.length_append, List.length_cons, List.length_nil]; done) | (simp only [List.length_set, List.length_append, List.length_cons, List.length_nil]; omega))) only [look_old, look_new, go_sem, Nat.reduceEqDiff, Nat.reduceAdd, Int.reduceLE, Int.reduceToNat, ↓reduceIte, t4, t2, t5, tk, o0, o1, hlt, h1', h2', g0', g1', GNode.cells, wrap_in]
    exact skip (by rw [hkA]; simp [g1]) _ _ (by simp [upd, t4]) (by simp [upd, t2]) (by simp [upd, t3]) (by simp [upd, t5]) (by simp [upd]) (by simp [upd]) (by first | exact More.app _ _ | exact (More.app _ _).set (by omega))
  have g1' : (x.Nodes[k].Subs[1] = c) = True := eq_true g1
  by_cases g2 : x.Nodes[k].Subs[2] = v
  case neg =>
    have g2' : (x.Nodes[k].Subs[2] = v) = False := eq_false g2
    simp (disch := (first | omega | (simp only [List.length_set, List.length_append, List.length_cons, List.length_nil]; done) | (simp only [List.length_set, List.length_append, List.length_cons, List.length_nil]; omega))) only [look_old, look_new, go_sem, Nat.reduceEqDiff, Nat.reduceAdd, Int.reduceLE, Int.reduceToNat, ↓reduceIte, t4, t2, t3, t5, tk, o0, o1, hlt, h1', h2', g0', g1', g2', GNode.cells, wrap_in]
    exact skip (by rw [hkA]; simp [g2]) _ _ (by simp [upd, t4]) (by simp [upd, t2]) (by simp [upd, t3]) (by simp [upd, t5]) (by simp [upd]) (by simp [upd]) (by first | exact More.app _ _ | exact (More.app _ _).set (by omega))
  have g2' : (x.Nodes[k].Subs[2] = v) = True := eq_true g2
  have hkT : keyAt b c v x.Nodes[k] = true := by rw [hkA]; simp [g0, g1, g2]
  have gl' : ((x.Nodes.take k).filter (keyAt b c v)).length ≤ k := by simpa using gl
  simp (disch := (first | omega | (simp only [List.length_set, List.length_append, List.length_cons, List.length_nil]; done) | (simp only [List.length_set, List.length_append, List.length_cons, List.length_nil]; omega))) only [look_old, look_new, look_new1, go_sem, Nat.reduceEqDiff, Nat.reduceAdd, Nat.reduceLeDiff, Int.reduceLE, Int.reduceToNat, ↓reduceIte, t4, t2, t3, t5, t9, tk, o0, o1, o2,  hlt, h1', h2', g0', g1', g2', GNode.cells, wrap_in]
  refine ⟨by omega, by omega, x.Nodes.length - (k + 1), by omega, hJ _ _ _ ⟨k + 1, by simp [upd, t4], by simp [upd, t2], by simp [upd, t3], by simp [upd, t5], by rw [kl_succ hlt hkT]; simp [upd], by simp [upd], ?_, ?_, ?_, ?_,  rfl, by omega⟩⟩
  · exact (mo.add _).set (by omega)
  · rw [look_ne (by omega), look_old (by omega)]; exact o0
  · rw [look_ne (by omega), look_old (by omega)]; exact o1
  · rw [look_hit (by simp; omega), kl_succ hlt hkT, hk3, ← keys_app]

def c_impl_KeysBy : LC :=
 .seq (.ops [⟨some 4, none, .box 34 (.tmp 0)⟩, ⟨some 5, none, .box 36 (.tmp 1)⟩, ⟨some 8, none, .mov (.const (.slice none 0 0))⟩, ⟨some 9, none, .mov (.const (.int .i64 0))⟩]) (.seq (.block 0 (.seq (.ops [⟨some 11, none,
 .load (some 1) (.tmp 4)⟩, ⟨some 12, none, .call 26 [.tmp 11]⟩, ⟨some 13, none, .un .not (.tmp 12)⟩, ⟨some 14, none, .mov (.tmp 13)⟩, ⟨some 15, (some (14, false)), .load (some 4) (.tmp 5)⟩, ⟨some 16, (some (14, false)),
 .call 27 [.tmp 15]⟩, ⟨some 17, (some (14, false)), .un .not (.tmp 16)⟩, ⟨some 18, none, .pick (.tmp 14) (.const (.bool true)) (.tmp 17)⟩, ⟨some 10, none, .mov (.tmp 18)⟩]) (.cond (.tmp 10) (.seq (.ops [⟨some 8, none, .mov
 (.const (.slice none 0 0))⟩, ⟨some 9, none, .mov (.const (.int .i64 1))⟩]) (.ret)) (.seq (.ops [⟨some 20, none, .fieldAddr 3 (.tmp 5)⟩, ⟨some 21, none, .load none (.tmp 20)⟩, ⟨some 22, none, .mov (.tmp 2)⟩, ⟨some 23,
 none, .call 28 [.tmp 21, .tmp 22]⟩, ⟨some 24, none, .un .not (.tmp 23)⟩, ⟨some 19, none, .mov (.tmp 24)⟩]) (.cond (.tmp 19) (.seq (.ops [⟨some 8, none, .mov (.const (.slice none 0 0))⟩, ⟨some 9, none, .mov (.const (.int
 .i64 3))⟩]) (.ret)) (.seq (.ops [⟨some 26, none, .mov (.tmp 3)⟩, ⟨some 27, none, .bin .eql false (.tmp 26) (.const (.string ⟨#[]⟩))⟩, ⟨some 28, none, .mov (.tmp 27)⟩, ⟨some 29, (some (28, false)), .mov (.tmp 3)⟩, ⟨some
 30, (some (28, false)), .call 29 [.tmp 29]⟩, ⟨some 31, (some (28, false)), .un .not (.tmp 30)⟩, ⟨some 32, none, .pick (.tmp 28) (.const (.bool true)) (.tmp 31)⟩, ⟨some 25, none, .mov (.tmp 32)⟩]) (.cond (.tmp 25) (.seq
 (.ops [⟨some 8, none, .mov (.const (.slice none 0 0))⟩, ⟨some 9, none, .mov (.const (.int .i64 2))⟩]) (.ret)) (.skip)))))))) (.seq (.ops [⟨some 33, none, .load (some 1) (.tmp 4)⟩, ⟨some 34, none, .load (some 4) (.tmp 5)⟩,
 ⟨some 35, none, .mov (.tmp 2)⟩, ⟨some 36, none, .mov (.tmp 3)⟩, ⟨some 37, none, .call 30 [.tmp 33, .tmp 34, .tmp 35, .tmp 36]⟩, ⟨some 8, none, .mov (.tmp 37)⟩, ⟨some 9, none, .mov (.const (.int .i64 0))⟩]) (.ret)))
def lf_impl_KeysBy : LF := { np := 4, N := 38, body := c_impl_KeysBy, res := [.tmp 8, .tmp 9] }
theorem low_impl_KeysBy : LowF Tryz.prog Tryz.f9 lf_impl_KeysBy := LowF.mk' (by kernel_rfl) (by kernel_rfl) (by kernel_rfl) (by decide)

def c_spec_KeysBy : LC :=
 .seq (.ops [⟨some 4, none, .box 34 (.tmp 0)⟩, ⟨some 5, none, .box 36 (.tmp 1)⟩, ⟨some 8, none, .mov (.const (.slice none 0 0))⟩, ⟨some 9, none, .mov (.const (.int .i64 0))⟩]) (.seq (.seq (.ops [⟨some 10, none, .load (some
 1) (.tmp 4)⟩, ⟨some 11, none, .call 19 [.tmp 10]⟩, ⟨some 12, none, .un .not (.tmp 11)⟩, ⟨some 13, none, .mov (.tmp 12)⟩, ⟨some 14, (some (13, false)), .load (some 4) (.tmp 5)⟩, ⟨some 15, (some (13, false)), .call 20 [.tmp
 14]⟩, ⟨some 16, (some (13, false)), .un .not (.tmp 15)⟩, ⟨some 17, none, .pick (.tmp 13) (.const (.bool true)) (.tmp 16)⟩]) (.cond (.tmp 17) (.seq (.ops [⟨some 18, none, .buildSlice 9 1 (.string ⟨#[]⟩) 0 []⟩, ⟨some 8,
 none, .mov (.tmp 18)⟩, ⟨some 9, none, .mov (.const (.int .i64 1))⟩]) (.ret)) (.skip))) (.seq (.seq (.ops [⟨some 19, none, .fieldAddr 3 (.tmp 5)⟩, ⟨some 20, none, .load none (.tmp 19)⟩, ⟨some 21, none, .mov (.tmp 2)⟩,
 ⟨some 22, none, .call 21 [.tmp 20, .tmp 21]⟩, ⟨some 23, none, .bin .lss false (.tmp 22) (.const (.int .i64 0))⟩]) (.cond (.tmp 23) (.seq (.ops [⟨some 24, none, .buildSlice 9 1 (.string ⟨#[]⟩) 0 []⟩, ⟨some 8, none, .mov
 (.tmp 24)⟩, ⟨some 9, none, .mov (.const (.int .i64 3))⟩]) (.ret)) (.skip))) (.seq (.seq (.ops [⟨some 25, none, .mov (.tmp 3)⟩, ⟨some 26, none, .bin .eql false (.tmp 25) (.const (.string ⟨#[]⟩))⟩, ⟨some 27, none, .mov
 (.tmp 26)⟩, ⟨some 28, (some (27, false)), .mov (.tmp 3)⟩, ⟨some 29, (some (27, false)), .call 22 [.tmp 28]⟩, ⟨some 30, (some (27, false)), .un .not (.tmp 29)⟩, ⟨some 31, none, .pick (.tmp 27) (.const (.bool true)) (.tmp
 30)⟩]) (.cond (.tmp 31) (.seq (.ops [⟨some 32, none, .buildSlice 9 1 (.string ⟨#[]⟩) 0 []⟩, ⟨some 8, none, .mov (.tmp 32)⟩, ⟨some 9, none, .mov (.const (.int .i64 2))⟩]) (.ret)) (.skip))) (.seq (.ops [⟨some 33, none,
 .load (some 1) (.tmp 4)⟩, ⟨some 34, none, .load (some 4) (.tmp 5)⟩, ⟨some 35, none, .mov (.tmp 2)⟩, ⟨some 36, none, .mov (.tmp 3)⟩, ⟨some 37, none, .call 23 [.tmp 33, .tmp 34, .tmp 35, .tmp 36]⟩, ⟨some 8, none, .mov (.tmp
 37)⟩, ⟨some 9, none, .mov (.const (.int .i64 0))⟩]) (.ret)))))
def lf_spec_KeysBy : LF := { np := 4, N := 38, body := c_spec_KeysBy, res := [.tmp 8, .tmp 9] }
theorem low_spec_KeysBy : LowF Tryz.prog Tryz.f6 lf_spec_KeysBy := LowF.mk' (by kernel_rfl) (by kernel_rfl) (by kernel_rfl) (by decide)

theorem keys2 {lo hi : Nat} {H : List Row} {a : AV} {xs : List ByteArray} (hF : FreshB lo hi H a (.list 0 1 (xs.map cStr))) (h : lo ≤ hi) (v : Int) : FreshB lo hi H (.tup [a, .val (.int .i64 v)]) (keysRes (xs, v)) :=
  FreshB.tup (FreshLB.cons hF (FreshLB.val _ (FreshLB.nil _ _ _)) ⟨h, Nat.le_refl _⟩)
theorem impl_KeysBy_fresh (x : GTree) (b : GTable) (c v : ByteArray) (hx : GTree.sz x ≤ 1048576) (hb : GTable.sz b ≤ 1048576) (hc : c.size ≤ 1048576) (hv : v.size ≤ 1048576) : FreshCall Tryz.prog 9 [.agg (GTree.cells x), .agg (GTable.cells b), .val (.string c), .val (.string v)] (keysRes (keysR x b c v)) (fun a => ∃ b v, a = .tup [b, .val (.int .i64 v)]) := by
  refine fresh_fn2 mixed Tryz.func9 low_impl_KeysBy rfl (fun h0 => ?_)
  have ht : ∀ H, PureCall Tryz.prog 26 [.agg [.list 0 3 (x.Nodes.map GNode.cells)]] H (.val (.bool (treeOk x))) := fun H => impl_TreeOk_ok x hx H
  have hta : ∀ H, PureCall Tryz.prog 27 [.agg [.val (.string b.Name), .val (.string b.Global), .list 0 1 (b.Columns.map cStr), .list 0 1 (b.Indexes.map cStr)]] H (.val (.bool (tableOk b))) := fun H => impl_TableOk_ok b hb H
  have hil := szList_len (GTable.sz_Indexes hb)
  simp (disch := (first | omega | (simp only [List.length_set, List.length_append, List.length_cons, List.length_nil]; done) | (simp only [List.length_set, List.length_append, List.length_cons, List.length_nil]; omega))) only [look_new, go_sem, Nat.reduceEqDiff, Nat.reduceAdd, ↓reduceIte, lf_impl_KeysBy, c_impl_KeysBy, GTree.cells, GTable.cells]
  refine PureCall.call (ht _) ?_
  cases q1 : treeOk x
  · have hR : keysR x b c v = ([], 1) := by simp [keysR, q1]
    simp (disch := (first | omega | (simp only [List.length_set, List.length_append, List.length_cons, List.length_nil]; done) | (simp only [List.length_set, List.length_append, List.length_cons, List.length_nil]; omega))) only [go_sem, Nat.reduceEqDiff, ↓reduceIte]
    rw [hR]
    exact ⟨⟨More.app _ _, keys2 (xs := []) (FreshB.mknil _ _ _ 1) (by simp) _⟩, _, _, rfl⟩
  simp (disch := (first | omega | (simp only [List.length_set, List.length_append, List.length_cons, List.length_nil]; done) | (simp only [List.length_set, List.length_append, List.length_cons, List.length_nil]; omega))) only [look_new1, go_sem, Nat.reduceEqDiff, Nat.reduceAdd, ↓reduceIte]
  refine PureCall.call (hta _) ?_
  cases q2 : tableOk b
  · have hR : keysR x b c v = ([], 1) := by simp [keysR, q1, q2]
    simp (disch := (first | omega | (simp only [List.length_set, List.length_append, List.length_cons, List.length_nil]; done) | (simp only [List.length_set, List.length_append, List.length_cons, List.length_nil]; omega))) only [go_sem, Nat.reduceEqDiff, ↓reduceIte]
    rw [hR]
    exact ⟨⟨More.app _ _, keys2 (xs := []) (FreshB.mknil _ _ _ 1) (by simp) _⟩, _, _, rfl⟩
  simp (disch := (first | omega | (simp only [List.length_set, List.length_append, List.length_cons, List.length_nil]; done) | (simp only [List.length_set, List.length_append, List.length_cons, List.length_nil]; omega))) only [look_new1, go_sem, Nat.reduceEqDiff, ↓reduceIte]
  refine PureCall.call (slices_Contains_string_ok b.Indexes c hil _) ?_
  by_cases q3 : placeT b.Indexes c < 0
  · have q3' : (placeT b.Indexes c < 0) = True := eq_true q3
    have q3d : decide (placeT b.Indexes c < 0) = true := decide_eq_true q3
    have hR : keysR x b c v = ([], 3) := by simp [keysR, q1, q2, q3]
    simp (disch := (first | omega | (simp only [List.length_set, List.length_append, List.length_cons, List.length_nil]; done) | (simp only [List.length_set, List.length_append, List.length_cons, List.length_nil]; omega))) only [go_sem, Nat.reduceEqDiff, ↓reduceIte, q3', Bool.not_true]
    rw [hR]
    exact ⟨⟨More.app _ _, keys2 (xs := []) (FreshB.mknil _ _ _ 1) (by simp) _⟩, _, _, rfl⟩
  have q3' : (placeT b.Indexes c < 0) = False := eq_false q3
  have q3d : decide (placeT b.Indexes c < 0) = false := decide_eq_false q3
  by_cases q4 : v = txt []
  · have q4' : (v = txt []) = True := eq_true q4
    have hR : keysR x b c v = ([], 2) := by simp [keysR, q1, q2, q3, q4]
    simp (disch := (first | omega | (simp only [List.length_set, List.length_append, List.length_cons, List.length_nil]; done) | (simp only [List.length_set, List.length_append, List.length_cons, List.length_nil]; omega))) only [go_sem, Nat.reduceEqDiff, ↓reduceIte, q3', q4', Bool.not_false]
    rw [hR]
    exact ⟨⟨More.app _ _, keys2 (xs := []) (FreshB.mknil _ _ _ 1) (by simp) _⟩, _, _, rfl⟩
  have q4' : (v = txt []) = False := eq_false q4
  simp (disch := (first | omega | (simp only [List.length_set, List.length_append, List.length_cons, List.length_nil]; done) | (simp only [List.length_set, List.length_append, List.length_cons, List.length_nil]; omega))) only [go_sem, Nat.reduceEqDiff, ↓reduceIte, q3', q4', Bool.not_false]
  refine PureCall.call (impl_cellOk_ok v _) ?_
  cases q5 : cellOk v
  · have hR : keysR x b c v = ([], 2) := by simp [keysR, q1, q2, q3, q4, q5]
    simp (disch := (first | omega | (simp only [List.length_set, List.length_append, List.length_cons, List.length_nil]; done) | (simp only [List.length_set, List.length_append, List.length_cons, List.length_nil]; omega))) only [go_sem, Nat.reduceEqDiff, ↓reduceIte]
    rw [hR]
    exact ⟨⟨More.app _ _, keys2 (xs := []) (FreshB.mknil _ _ _ 1) (by simp) _⟩, _, _, rfl⟩
  have hR : keysR x b c v = (keysL x b c v, 0) := by simp [keysR, q1, q2, q3, q4, q5]
  rw [hR]
  have hk : FreshCall Tryz.prog 30 [.agg [.list 0 3 (x.Nodes.map GNode.cells)], .agg [.val (.string b.Name), .val (.string b.Global), .list 0 1 (b.Columns.map cStr), .list 0 1 (b.Indexes.map cStr)], .val (.string c), .val (.string v)] (.list 0 1 ((keysL x b c v).map cStr)) (fun a => ∃ l, a = .own l (keysL x b c v).length) := impl_keysBy_fresh x b c v hx
  simp (disch := (first | omega | (simp only [List.length_set, List.length_append, List.length_cons, List.length_nil]; done) | (simp only [List.length_set, List.length_append, List.length_cons, List.length_nil]; omega))) only [look_new, look_new1, go_sem, Nat.reduceEqDiff, Nat.reduceAdd, ↓reduceIte]
  refine fresh_plain hk (fun av H1 m1 F1 q6 => ?_)
  obtain ⟨l, rfl⟩ := q6
  have l1 := m1.len
  simp only [List.length_append, List.length_cons, List.length_nil] at l1
  simp (disch := (first | omega | (simp only [List.length_set, List.length_append, List.length_cons, List.length_nil]; done) | (simp only [List.length_set, List.length_append, List.length_cons, List.length_nil]; omega))) only [go_sem, Nat.reduceEqDiff, ↓reduceIte]
  exact ⟨⟨(More.app h0 _).trans m1, keys2 (F1.tree.widen (by simp) (Nat.le_refl _)) (by omega) _⟩, _, _, rfl⟩

theorem spec_KeysBy_fresh (x : GTree) (b : GTable) (c v : ByteArray) (hx : GTree.sz x ≤ 1048576) (hb : GTable.sz b ≤ 1048576) (hc : c.size ≤ 1048576) (hv : v.size ≤ 1048576) : FreshCall Tryz.prog 6 [.agg (GTree.cells x), .agg (GTable.cells b), .val (.string c), .val (.string v)] (keysRes (keysR x b c v)) (fun a => ∃ b v, a = .tup [b, .val (.int .i64 v)]) := by
  refine fresh_fn2 mixed Tryz.func6 low_spec_KeysBy rfl (fun h0 => ?_)
  have ht : ∀ H, PureCall Tryz.prog 19 [.agg [.list 0 3 (x.Nodes.map GNode.cells)]] H (.val (.bool (treeOk x))) := fun H => spec_TreeOk_ok x hx H
  have hta : ∀ H, PureCall Tryz.prog 20 [.agg [.val (.string b.Name), .val (.string b.Global), .list 0 1 (b.Columns.map cStr), .list 0 1 (b.Indexes.map cStr)]] H (.val (.bool (tableOk b))) := fun H => spec_l29Ok_ok b hb H
  have hil := szList_len (GTable.sz_Indexes hb)
  simp (disch := (first | omega | (simp only [List.length_set, List.length_append, List.length_cons, List.length_nil]; done) | (simp only [List.length_set, List.length_append, List.length_cons, List.length_nil]; omega))) only [look_new, go_sem, Nat.reduceEqDiff, Nat.reduceAdd, ↓reduceIte, lf_spec_KeysBy, c_spec_KeysBy, GTree.cells, GTable.cells]
  refine PureCall.call (ht _) ?_
  cases q1 : treeOk x
  · have hR : keysR x b c v = ([], 1) := by simp [keysR, q1]
    simp (disch := (first | omega | (simp only [List.length_set, List.length_append, List.length_cons, List.length_nil]; done) | (simp only [List.length_set, List.length_append, List.length_cons, List.length_nil]; omega))) only [go_sem, Nat.reduceEqDiff, Nat.reduceAdd, ↓reduceIte]
    rw [hR]
    exact ⟨⟨More.app _ _, keys2 (xs := []) ((keysStr (out := []) (E := .ty 9) (l := h0.length + 2) (by rw [getAk]; rfl) (by omega)).widen (Nat.le_refl _) (by simp)) (by simp) _⟩, _, _, rfl⟩
  simp (disch := (first | omega | (simp only [List.length_set, List.length_append, List.length_cons, List.length_nil]; done) | (simp only [List.length_set, List.length_append, List.length_cons, List.length_nil]; omega))) only [look_new1, go_sem, Nat.reduceEqDiff, Nat.reduceAdd, ↓reduceIte]
  refine PureCall.call (hta _) ?_
  cases q2 : tableOk b
  · have hR : keysR x b c v = ([], 1) := by simp [keysR, q1, q2]
    simp (disch := (first | omega | (simp only [List.length_set, List.length_append, List.length_cons, List.length_nil]; done) | (simp only [List.length_set, List.length_append, List.length_cons, List.length_nil]; omega))) only [go_sem, Nat.reduceEqDiff, Nat.reduceAdd, ↓reduceIte]
    rw [hR]
    exact ⟨⟨More.app _ _, keys2 (xs := []) ((keysStr (out := []) (E := .ty 9) (l := h0.length + 2) (by rw [getAk]; rfl) (by omega)).widen (Nat.le_refl _) (by simp)) (by simp) _⟩, _, _, rfl⟩
  simp (disch := (first | omega | (simp only [List.length_set, List.length_append, List.length_cons, List.length_nil]; done) | (simp only [List.length_set, List.length_append, List.length_cons, List.length_nil]; omega))) only [look_new1, go_sem, Nat.reduceEqDiff, ↓reduceIte]
  refine PureCall.call (spec_l29Place_ok b.Indexes c hil _) ?_
  by_cases q3 : placeT b.Indexes c < 0
  · have q3' : (placeT b.Indexes c < 0) = True := eq_true q3
    have q3d : decide (placeT b.Indexes c < 0) = true := decide_eq_true q3
    have hR : keysR x b c v = ([], 3) := by simp [keysR, q1, q2, q3]
    simp (disch := (first | omega | (simp only [List.length_set, List.length_append, List.length_cons, List.length_nil]; done) | (simp only [List.length_set, List.length_append, List.length_cons, List.length_nil]; omega))) only [go_sem, Nat.reduceEqDiff, Nat.reduceAdd, ↓reduceIte, q3']
    rw [hR]
    exact ⟨⟨More.app _ _, keys2 (xs := []) ((keysStr (out := []) (E := .ty 9) (l := h0.length + 2) (by rw [getAk]; rfl) (by omega)).widen (Nat.le_refl _) (by simp)) (by simp) _⟩, _, _, rfl⟩
  have q3' : (placeT b.Indexes c < 0) = False := eq_false q3
  have q3d : decide (placeT b.Indexes c < 0) = false := decide_eq_false q3
  by_cases q4 : v = txt []
  · have q4' : (v = txt []) = True := eq_true q4
    have hR : keysR x b c v = ([], 2) := by simp [keysR, q1, q2, q3, q4]
    simp (disch := (first | omega | (simp only [List.length_set, List.length_append, List.length_cons, List.length_nil]; done) | (simp only [List.length_set, List.length_append, List.length_cons, List.length_nil]; omega))) only [go_sem, Nat.reduceEqDiff, Nat.reduceAdd, ↓reduceIte, q3', q4']
    rw [hR]
    exact ⟨⟨More.app _ _, keys2 (xs := []) ((keysStr (out := []) (E := .ty 9) (l := h0.length + 2) (by rw [getAk]; rfl) (by omega)).widen (Nat.le_refl _) (by simp)) (by simp) _⟩, _, _, rfl⟩
  have q4' : (v = txt []) = False := eq_false q4
  simp (disch := (first | omega | (simp only [List.length_set, List.length_append, List.length_cons, List.length_nil]; done) | (simp only [List.length_set, List.length_append, List.length_cons, List.length_nil]; omega))) only [go_sem, Nat.reduceEqDiff, ↓reduceIte, q3', q4']
  refine PureCall.call (spec_l29Cell_ok v hv _) ?_
  cases q5 : cellOk v
  · have hR : keysR x b c v = ([], 2) := by simp [keysR, q1, q2, q3, q4, q5]
    simp (disch := (first | omega | (simp only [List.length_set, List.length_append, List.length_cons, List.length_nil]; done) | (simp only [List.length_set, List.length_append, List.length_cons, List.length_nil]; omega))) only [go_sem, Nat.reduceEqDiff, Nat.reduceAdd, ↓reduceIte]
    rw [hR]
    exact ⟨⟨More.app _ _, keys2 (xs := []) ((keysStr (out := []) (E := .ty 9) (l := h0.length + 2) (by rw [getAk]; rfl) (by omega)).widen (Nat.le_refl _) (by simp)) (by simp) _⟩, _, _, rfl⟩
  have hR : keysR x b c v = (keysL x b c v, 0) := by simp [keysR, q1, q2, q3, q4, q5]
  rw [hR]
  have hk : FreshCall Tryz.prog 23 [.agg [.list 0 3 (x.Nodes.map GNode.cells)], .agg [.val (.string b.Name), .val (.string b.Global), .list 0 1 (b.Columns.map cStr), .list 0 1 (b.Indexes.map cStr)], .val (.string c), .val (.string v)] (.list 0 1 ((keysL x b c v).map cStr)) (fun a => ∃ l, a = .own l (keysL x b c v).length) := spec_l29Keys_fresh x b c v hx
  simp (disch := (first | omega | (simp only [List.length_set, List.length_append, List.length_cons, List.length_nil]; done) | (simp only [List.length_set, List.length_append, List.length_cons, List.length_nil]; omega))) only [look_new, look_new1, go_sem, Nat.reduceEqDiff, Nat.reduceAdd, ↓reduceIte]
  refine fresh_plain hk (fun av H1 m1 F1 q6 => ?_)
  obtain ⟨l, rfl⟩ := q6
  have l1 := m1.len
  simp only [List.length_append, List.length_cons, List.length_nil] at l1
  simp (disch := (first | omega | (simp only [List.length_set, List.length_append, List.length_cons, List.length_nil]; done) | (simp only [List.length_set, List.length_append, List.length_cons, List.length_nil]; omega))) only [go_sem, Nat.reduceEqDiff, ↓reduceIte]
  exact ⟨⟨(More.app h0 _).trans m1, keys2 (F1.tree.widen (by simp) (Nat.le_refl _)) (by omega) _⟩, _, _, rfl⟩

theorem spec_KeysBy_ok (x : GTree) (b : GTable) (c v : ByteArray) (hx : GTree.sz x ≤ 1048576) (hb : GTable.sz b ≤ 1048576) (hc : c.size ≤ 1048576) (hv : v.size ≤ 1048576) (h : List Row) : PureCall Tryz.prog 6 [.agg (GTree.cells x), .agg (GTable.cells b), .val (.string c), .val (.string v)] h (keysRes (keysR x b c v)) := (spec_KeysBy_fresh x b c v hx hb hc hv).pure rfl h
end Go.Proofs.YtkddmakjmjmokaaGreatDoor
