/-
  Contracts of functions of this program, over abstract values. Conditions: as each theorem says.
-/
import Derived.Test.YtkddmakjmjmokaaDoorFnRE
import Derived.Test.YtkddmakjmjmokaaDoorAwSplit
import Derived.Test.YtkddmakjmjmokaaDoorPlCut
import Derived.Test.YtkddmakjmjmokaaDoorShelfP
import Derived.Test.YtkddmakjmjmokaaDoorAwC
namespace Go.Proofs.YtkddmakjmjmokaaDoor
open Go.AW
set_option linter.unusedVariables false
set_option linter.unusedSimpArgs false
set_option maxRecDepth 4000

def cutB (v : ByteArray) : List ByteArray := (Plain.pieces v.data.toList).map txt
def rowKV (b : GTable) (k v : ByteArray) : GRow := ⟨if 1 < b.Columns.length then k :: cutB v else [k]⟩
def unpack (b : GTable) (k v : ByteArray) : GRow × Int := if rowOk b (rowKV b k v) && decide (packB (rowKV b k v) = v) then (rowKV b k v, 0) else (⟨[]⟩, 14)
def unpackR (b : GTable) (k v : ByteArray) : GRow × Int := if tableOk b then unpack b k v else (⟨[]⟩, 1)
abbrev rowRes (p : GRow × Int) : AV := .tup [.agg (GRow.cells p.1), .val (.int .i64 p.2)]
def RowQ (a : AV) : Prop := ∃ b, b.cell = true ∧ ∃ v, a = .tup [.agg [b], .val (.int .i64 v)]
theorem txts_back (xs : List ByteArray) : (xs.map (·.data.toList)).map txt = xs := by
  rw [List.map_map]
  have : (txt ∘ fun s : ByteArray => s.data.toList) = id := funext fun s => (txt_of s).symm
  rw [this, List.map_id]
theorem txts_data (ls : List (List UInt8)) : (ls.map txt).map (·.data.toList) = ls := by
  rw [List.map_map]
  have : ((fun s : ByteArray => s.data.toList) ∘ txt) = id := funext fun s => txt_data s
  rw [this, List.map_id]
theorem bsize (v : ByteArray) : v.data.toList.length = v.size := by rw [Array.length_toList]; rfl
theorem cutB_len (v : ByteArray) : (cutB v).length ≤ v.size + 1 := by
  rw [cutB, List.length_map, ← bsize]; exact Plain.pieces_len _
theorem cutB_pos (v : ByteArray) : 0 < (cutB v).length := by
  rw [cutB, List.length_map]; exact List.length_pos_iff.2 (Plain.pieces_ne _)
theorem cutB_mem (v : ByteArray) (s : ByteArray) (h : s ∈ cutB v) : s.size ≤ v.size := by
  obtain ⟨p, hp, rfl⟩ := List.mem_map.1 h
  rw [txt_size, ← bsize]; exact Plain.pieces_mem _ p hp
theorem join_cutB (v : ByteArray) : joinL (cutB v) = v.data.toList := by
  rw [joinL, cutB, txts_data]; exact Plain.join_pieces _
theorem split_cut (v : ByteArray) : Lib.splitB (txt [94]) 0 (Lib.countB v (txt [94])) v = cutB v := by
  have h := Lib.splitB_data (txt [94]) 0 (Lib.countB v (txt [94])) v
  have h2 : Lib.countB v (txt [94]) = Lib.count v.data.toList [94] := rfl
  rw [txt_data, h2, Plain.splitK_pieces] at h
  rw [← txts_back (Lib.splitB (txt [94]) 0 (Lib.countB v (txt [94])) v), h2, h]; rfl
theorem count_cut (v : ByteArray) : Lib.countB v (txt [94]) + 1 = (cutB v).length := by
  rw [← split_cut, Lib.splitB_all (txt [94]) (by rw [txt_size]; decide) 0 _ v rfl]
theorem pack_many {b : GTable} {k v : ByteArray} (h : 1 < b.Columns.length) : packB (rowKV b k v) = v := by
  simp only [packB, rowKV, if_pos h, List.drop_succ_cons, List.drop_zero, join_cutB]; exact (txt_of v).symm
theorem pack_one {b : GTable} {k v : ByteArray} (h : ¬ 1 < b.Columns.length) : packB (rowKV b k v) = txt [] := by
  simp only [packB, rowKV, if_neg h, List.drop_succ_cons, List.drop_zero]; rfl
theorem rowKV_len (b : GTable) (k v : ByteArray) (hv : v.size ≤ 1048576) : 1 ≤ (rowKV b k v).Cells.length ∧ (rowKV b k v).Cells.length ≤ 1048578 := by
  have := cutB_len v
  by_cases h : 1 < b.Columns.length
  · simp only [rowKV, if_pos h, List.length_cons]; omega
  · simp only [rowKV, if_neg h, List.length_cons, List.length_nil]; omega
theorem rowKV_mem (b : GTable) (k v : ByteArray) (hk : k.size ≤ 1048576) (hv : v.size ≤ 1048576) : ∀ s ∈ (rowKV b k v).Cells, s.size ≤ 1048576 := by
  intro s hs
  by_cases h : 1 < b.Columns.length
  · simp only [rowKV, if_pos h, List.mem_cons] at hs
    rcases hs with rfl | hs
    · exact hk
    · have := cutB_mem v s hs; omega
  · simp only [rowKV, if_neg h, List.mem_singleton] at hs
    subst hs; exact hk
theorem unpackR_sz (b : GTable) (k v : ByteArray) : GRow.sz (unpackR b k v).1 ≤ 1048576 := by
  by_cases h1 : tableOk b = true
  case neg => simp [unpackR, h1, GRow.sz, szList, sumOf]
  by_cases h2 : (rowOk b (rowKV b k v) && decide (packB (rowKV b k v) = v)) = true
  case neg => simp [unpackR, h1, unpack, h2, GRow.sz, szList, sumOf]
  have e : (unpackR b k v).1 = rowKV b k v := by simp only [unpackR, h1, unpack, h2, if_true]
  rw [e]
  simp only [Bool.and_eq_true] at h2
  have hf := row_facts (b := b) (r := rowKV b k v) (by simp only [rowsOk, h1, h2.1, Bool.and_self])
  have hl : (rowKV b k v).Cells.length ≤ 5 := by
    have h3 := h2.1
    simp only [rowOk, Bool.and_eq_true, decide_eq_true_eq] at h3
    have h4 := h1
    simp only [tableOk, Bool.and_eq_true] at h4
    have h5 := h4.1.1.1.2
    simp only [within, Bool.and_eq_true, decide_eq_true_eq] at h5
    omega
  have hs : ∀ (xs : List ByteArray), (∀ s ∈ xs, s.size ≤ 11) → szList ByteArray.size xs ≤ 12 * xs.length := by
    intro xs
    induction xs with
    | nil => intro _; simp [szList, sumOf]
    | cons x xs ih =>
      intro h
      have h6 := ih fun s hs => h s (by simp [hs])
      have h7 := h x (by simp)
      simp only [szList, sumOf, List.length_cons] at h6 ⊢
      omega
  have := hs _ hf.2
  simp only [GRow.sz]
  omega
/-- strings.Split at the mark: a new row. -/
theorem split_sem {v : ByteArray} (hv : v.size ≤ 1048576) {H : List Row} {K : AV → List Row → Prop} (hk : K (.own H.length (cutB v).length) (H ++ [⟨.ty 9, 1, (cutB v).map cStr⟩])) : callSem Tryd.prog 33 [.val (.string v), .val (.string (txt [94]))] H K := by
  refine split_own (E := 9) (g := 0) (by kernel_rfl) (fun s sep m w h1 h2 h3 => Tryd.strings_Split s sep m w h1 h2 h3) hv (by rw [txt_size]; decide) ?_
  rw [split_cut, count_cut]
  exact hk
theorem split_more {v : ByteArray} (hv : v.size ≤ 1048576) {H : List Row} {K : AV → List Row → Prop} (hk : ∀ H', More H H' → H'.length = H.length + 1 → H'[H.length]? = some ⟨.ty 9, 1, (cutB v).map cStr⟩ → K (.own H.length (cutB v).length) H') : callSem Tryd.prog 33 [.val (.string v), .val (.string (txt [94]))] H K :=
  split_sem hv (hk _ (More.app _ _) (by simp) (look_new rfl))
theorem OwnLL_strs {H : List Row} {n : Nat} : ∀ {zs : List ByteArray} {es : List (List AV)} {fs : List Nat}, OwnLL (AW.Own H n) es (zs.map cStr) fs → es = zs.map cStr ∧ fs = []
  | [], es, fs, h => by
    cases es with
    | nil => exact ⟨rfl, h.2⟩
    | cons e es => obtain ⟨_, _, _, _, q, _⟩ := h; cases q
  | z :: zs, es, fs, h => by
    cases es with
    | nil => obtain ⟨q, _⟩ := h; cases q
    | cons e es =>
      obtain ⟨d, ds, f, f', q, e2, h1, h2⟩ := h
      simp only [List.map_cons, List.cons.injEq] at q
      obtain ⟨q1, q2⟩ := q
      subst q1 q2
      obtain ⟨i1, i2⟩ := OwnLL_strs (zs := zs) h2
      subst i1 i2
      cases e with
      | nil => obtain ⟨q, _⟩ := h1; cases q
      | cons c cs =>
        obtain ⟨d', ds', g, g', q, e3, h3, h4⟩ := h1
        simp only [cStr, List.cons.injEq] at q
        obtain ⟨q1, q2⟩ := q
        subst q1 q2
        obtain ⟨rfl, rfl⟩ := Own.val h3
        cases cs with
        | nil =>
          obtain ⟨_, rfl⟩ := h4
          subst e3 e2
          exact ⟨rfl, rfl⟩
        | cons c' cs' => obtain ⟨_, _, _, _, q, _⟩ := h4; cases q
theorem strs_in {base l k : Nat} {H : List Row} {zs : List ByteArray} (h : Fresh base H (.own l k) (.list 0 1 (zs.map cStr))) : base ≤ l ∧ k = zs.length ∧ ∃ E, H[l]? = some ⟨E, 1, zs.map cStr⟩ := by
  obtain ⟨n, fs, ho, _, hge⟩ := h
  cases n with
  | zero => exact ho.elim
  | succ n =>
    obtain ⟨row, es, f, h1, h2, h3, h4, h5⟩ := ho
    subst h5
    injection h4 with _ q1 q2
    subst q2
    obtain ⟨i1, _⟩ := OwnLL_strs h3
    refine ⟨hge l (by simp), by rw [← h2, i1, List.length_map], row.E, ?_⟩
    rw [h1, q1, ← i1]
theorem strs_fresh {base l : Nat} {H : List Row} {E : Tag} {out : List ByteArray} (hl : H[l]? = some ⟨E, 1, out.map cStr⟩) (hb : base ≤ l) : FreshB base (l + 1) H (.own l out.length) (.list 0 1 (out.map cStr)) :=
  FreshB.mkown (lo := l + 1) (hi := l + 1) (FreshLLB.ofVals _ _ _ _ (by
    intro e he c hc
    obtain ⟨x, _, q⟩ := List.mem_map.1 he; subst q
    simp only [cStr, List.mem_singleton] at hc
    exact ⟨_, hc⟩)) hl (by simp) hb (Nat.lt_succ_self _) (Nat.le_refl _)
theorem strs_cells (xs : List ByteArray) : ∀ e ∈ xs.map cStr, e.all AV.cell = true := by
  intro e he
  obtain ⟨x, _, q⟩ := List.mem_map.1 he; subst q; rfl
theorem row2 {lo hi : Nat} {H : List Row} {b : AV} {x : GRow} (hF : FreshB lo hi H (.agg [b]) (.agg (GRow.cells x))) (h : lo ≤ hi) (v : Int) : FreshB lo hi H (.tup [.agg [b], .val (.int .i64 v)]) (rowRes (x, v)) :=
  FreshB.tup (FreshLB.cons hF (FreshLB.val _ (FreshLB.nil _ _ _)) ⟨h, Nat.le_refl _⟩)
theorem nilW {lo hi : Nat} {H : List Row} (h : lo ≤ hi) : FreshB lo hi H (.agg [.val (.slice none 0 0)]) (.agg (GRow.cells ⟨[]⟩)) := (FreshB.agg (FreshLB.cons (FreshB.mknil lo lo H 1) (FreshLB.nil _ _ _) ⟨Nat.le_refl _, Nat.le_refl _⟩)).widen (Nat.le_refl _) h
theorem rowF {lo l : Nat} {H : List Row} {E : Tag} {out : List ByteArray} (hl : H[l]? = some ⟨E, 1, out.map cStr⟩) (hb : lo ≤ l) : FreshB lo (l + 1) H (.agg [.own l out.length]) (.agg (GRow.cells ⟨out⟩)) := FreshB.agg (FreshLB.cons (strs_fresh hl hb) (FreshLB.nil _ _ _) ⟨by omega, Nat.le_refl _⟩)
def c_spec_l29Cut : LC :=
 .seq (.ops [⟨some 2, none, .mov (.const (.slice none 0 0))⟩]) (.seq (.ops [⟨some 6, none, .buildSlice 9 1 (.string ⟨#[]⟩) 0 []⟩, ⟨some 3, none, .mov (.tmp 6)⟩]) (.seq (.ops [⟨some 4, none, .mov (.const (.int .i64 0))⟩])
 (.seq (.seq (.ops [⟨some 5, none, .mov (.const (.int .i64 0))⟩]) (.block 0 (.loop (.seq (.seq (.ops [⟨some 7, none, .mov (.tmp 5)⟩, ⟨some 8, none, .mov (.tmp 0)⟩, ⟨some 9, none, .lenStr (.tmp 8)⟩, ⟨some 10, none, .bin
 .leq false (.tmp 7) (.tmp 9)⟩]) (.cond (.tmp 10) (.skip) (.exit 0))) (.seq (.block 1 (.seq (.ops [⟨some 13, none, .mov (.tmp 5)⟩, ⟨some 14, none, .mov (.tmp 0)⟩, ⟨some 15, none, .lenStr (.tmp 14)⟩, ⟨some 16, none, .bin
 .eql false (.tmp 13) (.tmp 15)⟩, ⟨some 17, none, .mov (.tmp 16)⟩, ⟨some 18, (some (17, false)), .mov (.tmp 0)⟩, ⟨some 19, (some (17, false)), .mov (.tmp 5)⟩, ⟨some 20, (some (17, false)), .indexStr (.tmp 18) (.tmp 19)⟩,
 ⟨some 21, (some (17, false)), .bin .eql false (.tmp 20) (.const (.int .u8 94))⟩, ⟨some 22, none, .pick (.tmp 17) (.const (.bool true)) (.tmp 21)⟩]) (.cond (.tmp 22) (.seq (.ops [⟨some 23, none, .mov (.tmp 3)⟩, ⟨some 24,
 none, .mov (.tmp 0)⟩, ⟨some 25, none, .mov (.tmp 4)⟩, ⟨some 26, none, .mov (.tmp 5)⟩, ⟨some 27, none, .sliceStr (.tmp 24) (some (.tmp 25)) (some (.tmp 26))⟩, ⟨some 28, none, .buildSlice 9 1 (.string ⟨#[]⟩) 1 [(0, .tmp
 27)]⟩, ⟨some 29, none, .append 9 1 16 (.tmp 23) (.tmp 28)⟩, ⟨some 3, none, .mov (.tmp 29)⟩]) (.ops [⟨some 30, none, .mov (.tmp 5)⟩, ⟨some 31, none, .bin .add false (.tmp 30) (.const (.int .i64 1))⟩, ⟨some 4, none, .mov
 (.tmp 31)⟩])) (.skip)))) (.ops [⟨some 11, none, .mov (.tmp 5)⟩, ⟨some 12, none, .bin .add false (.tmp 11) (.const (.int .i64 1))⟩, ⟨some 5, none, .mov (.tmp 12)⟩])))))) (.seq (.ops [⟨some 32, none, .mov (.tmp 3)⟩, ⟨some
 2, none, .mov (.tmp 32)⟩]) (.ret)))))
def lf_spec_l29Cut : LF := { np := 1, N := 33, body := c_spec_l29Cut, res := [.tmp 2] }
theorem low_spec_l29Cut : LowF Tryd.prog Tryd.f24 lf_spec_l29Cut := LowF.mk' (by kernel_rfl) (by kernel_rfl) (by kernel_rfl) (by decide)

abbrev pCut (ls : List (List UInt8)) : List (List AV) := ls.map fun p => cStr (txt p)
theorem spec_l29Cut_fresh (v : ByteArray) (hv : v.size ≤ 1048576) : FreshCall Tryd.prog 24 [.val (.string v)] (.list 0 1 ((cutB v).map cStr)) (fun a => ∃ l n, a = .own l n) := by
  refine fresh_fn2 mixed Tryd.func24 low_spec_l29Cut rfl (fun h0 => ?_)
  obtain ⟨l, hl⟩ : ∃ l, v = txt l := ⟨_, txt_of v⟩
  subst hl
  rw [txt_size] at hv
  have hcut : (cutB (txt l)).map cStr = pCut (Plain.pieces l) := by simp only [cutB, txt_data, List.map_map]; rfl
  simp (disch := (first | omega | (simp only [List.length_set, List.length_append, List.length_cons, List.length_nil]; done) | (simp only [List.length_set, List.length_append, List.length_cons, List.length_nil]; omega))) only [go_sem, ↓reduceIte, lf_spec_l29Cut, c_spec_l29Cut]
  refine Ex_loop (fun m t h => ∃ (i fr : Nat) (done : List (List UInt8)), t 0 = .val (.string (txt l)) ∧ t 3 = .own h0.length done.length ∧ t 4 = .val (.int .i64 fr) ∧ t 5 = .val (.int .i64 i) ∧ More h0 h ∧ h[h0.length]? = some ⟨.ty 9, 1, pCut done⟩ ∧ m = l.length + 1 - i ∧ i ≤ l.length + 1 ∧ fr ≤ i ∧ (i ≤ l.length → Plain.pieces l = done ++ Plain.glue ((l.take i).drop fr) (Plain.pieces (l.drop i))) ∧ (l.length < i → Plain.pieces l = done)) (l.length + 1) ⟨0, 0, [], rfl, rfl, rfl, rfl, More.app _ _, look_new rfl, rfl, Nat.zero_le _, Nat.le_refl _, fun _ => by rw [List.take_zero, List.drop_nil, List.drop_zero, List.nil_append, Plain.glue_nil (Plain.pieces_ne _)], fun q => absurd q (by omega)⟩ ?_
  rintro J hJ m t h ⟨i, fr, done, t0, t3, t4, t5, mo, o0, rfl, hi, hfr, hS, hE⟩
  have hll := (List.getElem?_eq_some_iff.1 o0).1
  by_cases hle : i ≤ l.length
  case neg =>
    have hle' : ((i : Int) ≤ (l.length : Int)) = False := eq_false (by omega)
    have hp := hE (by omega)
    simp (disch := (first | omega | (simp only [List.length_set, List.length_append, List.length_cons, List.length_nil]; done) | (simp only [List.length_set, List.length_append, List.length_cons, List.length_nil]; omega))) only [go_sem, Nat.reduceEqDiff, reduceCtorEq, ↓reduceIte, t0, t3, t5, hle']
    rw [hcut, hp]
    refine ⟨⟨mo, ?_⟩, _, _, rfl⟩
    have e : pCut done = (done.map txt).map cStr := by simp only [List.map_map]; rfl
    rw [e] at o0 ⊢
    rw [show done.length = (done.map txt).length by simp]
    exact (strs_fresh o0 (Nat.le_refl _)).widen (Nat.le_refl _) hll
  have hle' : ((i : Int) ≤ (l.length : Int)) = True := eq_true (by omega)
  have hS' := hS hle
  have next : ∀ t' h' (i' fr' : Nat) (done' : List (List UInt8)), t' 0 = .val (.string (txt l)) → t' 3 = .own h0.length done'.length → t' 4 = .val (.int .i64 fr') → t' 5 = .val (.int .i64 i') → More h0 h' → h'[h0.length]? = some ⟨.ty 9, 1, pCut done'⟩ → i' = i + 1 → fr' ≤ i' → (i' ≤ l.length → Plain.pieces l = done' ++ Plain.glue ((l.take i').drop fr') (Plain.pieces (l.drop i'))) → (l.length < i' → Plain.pieces l = done') → ∃ m, m < l.length + 1 - i ∧ J m t' h' := by
    intro t' h' i' fr' done' e0 e3 e4 e5 mo' o' ei ef e6 e7
    exact ⟨l.length + 1 - i', by omega, hJ _ _ _ ⟨i', fr', done', e0, e3, e4, e5, mo', o', rfl, by omega, ef, e6, e7⟩⟩
  have hpl : done.length ≤ l.length := by
    have := Plain.pieces_len l
    rw [hS'] at this
    rw [List.length_append] at this
    have h9 : 0 < (Plain.glue ((l.take i).drop fr) (Plain.pieces (l.drop i))).length := List.length_pos_iff.2 (Plain.glue_ne _ _)
    omega
  have pl : (pCut done).length = done.length := List.length_map _
  have pe : ∀ q : List UInt8, pCut done ++ [[AV.val (.string (txt q))]] = pCut (done ++ [q]) := fun q => by simp [pCut]
  by_cases hi2 : i = l.length
  · have hi2' : ((i : Int) = (l.length : Int)) = True := eq_true (by omega)
    have hd : Plain.pieces l = done ++ [(l.take i).drop fr] := by
      rw [hS', show l.drop i = [] from List.drop_eq_nil_of_le (by omega), show Plain.pieces [] = [[]] from rfl, Plain.glue_end]
    simp (disch := (first | omega | (simp only [List.length_set, List.length_append, List.length_cons, List.length_nil]; done) | (simp only [List.length_set, List.length_append, List.length_cons, List.length_nil]; omega))) only [look_old, look_new, go_sem, Nat.reduceEqDiff, Nat.reduceLeDiff, reduceCtorEq, ↓reduceIte, t0, t3, t4, t5, o0, hle', hi2', pl, wrap_in]
    refine ⟨by omega, by omega, next _ _ (i + 1) (i + 1) (done ++ [(l.take i).drop fr]) (by simp [upd, t0]) (by simp [upd]) (by simp [upd]) (by simp [upd]) ((mo.add _).set (Nat.le_refl _)) ?_ rfl (Nat.le_refl _) (fun q => absurd q (by omega)) (fun _ => hd)⟩
    rw [look_hit (by simp; omega), pe]
  have hi2' : ((i : Int) = (l.length : Int)) = False := eq_false (by omega)
  have hil : i < l.length := by omega
  have hdr := List.drop_eq_getElem_cons hil
  by_cases h94 : l[i] = 94
  · have h94' : ((l[i].toNat : Int) = 94) = True := eq_true (by rw [h94]; rfl)
    simp (disch := (first | omega | (simp only [List.length_set, List.length_append, List.length_cons, List.length_nil]; done) | (simp only [List.length_set, List.length_append, List.length_cons, List.length_nil]; omega))) only [look_old, look_new, go_sem, Nat.reduceEqDiff, Nat.reduceLeDiff, reduceCtorEq, ↓reduceIte, t0, t3, t4, t5, o0, hle', hi2', h94', pl, wrap_in]
    refine ⟨by omega, by omega, next _ _ (i + 1) (i + 1) (done ++ [(l.take i).drop fr]) (by simp [upd, t0]) (by simp [upd]) (by simp [upd]) (by simp [upd]) ((mo.add _).set (Nat.le_refl _)) ?_ rfl (Nat.le_refl _) (fun q => ?_) (fun q => absurd q (by omega))⟩
    · rw [look_hit (by simp; omega), pe]
    · rw [hS', hdr, h94, Plain.pieces_mark, Plain.glue_mark, List.append_assoc, show (l.take (i + 1)).drop (i + 1) = [] from List.drop_eq_nil_of_le (by rw [List.length_take]; omega), Plain.glue_nil (Plain.pieces_ne _)]; rfl
  · have h94' : ((l[i].toNat : Int) = 94) = False := by
      refine eq_false fun q => h94 ?_
      have : l[i].toNat = (94 : UInt8).toNat := by rw [show (94 : UInt8).toNat = 94 from rfl]; omega
      exact UInt8.toNat_inj.1 this
    simp (disch := (first | omega | (simp only [List.length_set, List.length_append, List.length_cons, List.length_nil]; done) | (simp only [List.length_set, List.length_append, List.length_cons, List.length_nil]; omega))) only [go_sem, Nat.reduceEqDiff, reduceCtorEq, ↓reduceIte, t0, t5, hle', hi2', h94', wrap_in]
    refine next _ _ (i + 1) fr done (by simp [upd, t0]) (by simp [upd, t3]) (by simp [upd, t4]) (by simp [upd]) mo o0 rfl (by omega) (fun _ => ?_) (fun q => absurd q (by omega))
    rw [hS', hdr, Plain.pieces_byte h94, Plain.glue_glue, List.take_succ_eq_append_getElem hil, List.drop_append_of_le_length (by rw [List.length_take]; omega)]

def c_impl_unpacked : LC :=
 .seq (.ops [⟨some 3, none, .box 30 (.tmp 0)⟩, ⟨some 6, none, .alloc 27 (.agg #[.slice none 0 0])⟩, ⟨some 7, none, .mov (.const (.int .i64 0))⟩]) (.seq (.ops [⟨some 9, none, .mov (.tmp 1)⟩, ⟨some 10, none, .buildSlice 9 1
 (.string ⟨#[]⟩) 1 [(0, .tmp 9)]⟩, ⟨some 11, none, .build (.agg #[.slice none 0 0]) [(0, 1)] [(0, .tmp 10)]⟩, ⟨some 8, none, .alloc 27 (.agg #[.slice none 0 0])⟩, ⟨none, none, .store 1 (.tmp 8) (.tmp 11)⟩]) (.seq (.seq
 (.ops [⟨some 12, none, .fieldAddr 2 (.tmp 3)⟩, ⟨some 13, none, .load none (.tmp 12)⟩, ⟨some 14, none, .lenSl (.tmp 13)⟩, ⟨some 15, none, .bin .gtr false (.tmp 14) (.const (.int .i64 1))⟩]) (.cond (.tmp 15) (.gops [⟨some
 16, none, .fieldAddr 0 (.tmp 8)⟩, ⟨some 17, none, .load none (.tmp 16)⟩, ⟨some 18, none, .mov (.tmp 2)⟩] [(⟨some 19, none, .call 33 [.tmp 18, .const (.string ⟨#[94]⟩)]⟩, [⟨some 16, none, .fieldAddr 0 (.tmp 8)⟩, ⟨some 17,
 none, .load none (.tmp 16)⟩]), (⟨some 20, none, .append 9 1 16 (.tmp 17) (.tmp 19)⟩, []), (⟨some 21, none, .fieldAddr 0 (.tmp 8)⟩, []), (⟨none, none, .store 1 (.tmp 21) (.tmp 20)⟩, [])]) (.skip))) (.seq (.seq (.ops [⟨some
 22, none, .load (some 4) (.tmp 3)⟩, ⟨some 23, none, .load (some 1) (.tmp 8)⟩, ⟨some 24, none, .call 34 [.tmp 22, .tmp 23]⟩, ⟨some 25, none, .un .not (.tmp 24)⟩, ⟨some 26, none, .mov (.tmp 25)⟩, ⟨some 27, (some (26,
 false)), .load (some 1) (.tmp 8)⟩, ⟨some 28, (some (26, false)), .call 35 [.tmp 27]⟩, ⟨some 29, (some (26, false)), .mov (.tmp 2)⟩, ⟨some 30, (some (26, false)), .bin .neq false (.tmp 28) (.tmp 29)⟩, ⟨some 31, none, .pick
 (.tmp 26) (.const (.bool true)) (.tmp 30)⟩]) (.cond (.tmp 31) (.seq (.ops [⟨some 32, none, .build (.agg #[.slice none 0 0]) [(0, 1)] []⟩, ⟨none, none, .store 1 (.tmp 6) (.tmp 32)⟩, ⟨some 7, none, .mov (.const (.int .i64
 14))⟩]) (.ret)) (.skip))) (.seq (.ops [⟨some 33, none, .load (some 1) (.tmp 8)⟩, ⟨none, none, .store 1 (.tmp 6) (.tmp 33)⟩, ⟨some 7, none, .mov (.const (.int .i64 0))⟩]) (.ret)))))
def lf_impl_unpacked : LF := { np := 3, N := 34, body := c_impl_unpacked, res := [.cell 6 (some 1), .tmp 7] }
theorem low_impl_unpacked : LowF Tryd.prog Tryd.f18 lf_impl_unpacked := LowF.mk' (by kernel_rfl) (by kernel_rfl) (by kernel_rfl) (by decide)

theorem impl_unpacked_fresh (b : GTable) (k v : ByteArray) (hb : GTable.sz b ≤ 1048576) (hk : k.size ≤ 1048576) (hv : v.size ≤ 1048576) (hpos : 0 < b.Columns.length) : FreshCall Tryd.prog 18 [.agg (GTable.cells b), .val (.string k), .val (.string v)] (rowRes (unpack b k v)) RowQ := by
  refine fresh_fn2 mixed Tryd.func18 low_impl_unpacked rfl (fun h0 => ?_)
  have hc := szList_len (GTable.sz_Columns hb)
  have hrl := rowKV_len b k v hv
  have fin : ∀ H : List Row, More h0 H → H[h0.length + 2]? = some ⟨.ty 9, 1, (rowKV b k v).Cells.map cStr⟩ → FreshB h0.length H.length H (.agg [.own (h0.length + 2) (rowKV b k v).Cells.length]) (.agg (GRow.cells (rowKV b k v))) := fun H m o => (rowF o (by omega)).widen (Nat.le_refl _) (List.getElem?_eq_some_iff.1 o).1
  have hrow : ∀ (H : List Row) (A : AV), ArgOwn H A (.agg (GRow.cells (rowKV b k v))) → PureCall Tryd.prog 34 [.agg [.val (.string b.Name), .val (.string b.Global), .list 0 1 (b.Columns.map cStr), .list 0 1 (b.Indexes.map cStr)], A] H (.val (.bool (rowOk b (rowKV b k v)))) := fun H A hA => PureCall.own (fun h => impl_rowOk_gen b _ hb hpos h) (ArgsOwn.cons (ArgOwn.same rfl) (ArgsOwn.cons hA ArgsOwn.nil))
  have hno : ∀ q, (rowOk b (rowKV b k v) && decide (packB (rowKV b k v) = v)) = q → unpack b k v = if q = true then (rowKV b k v, 0) else (⟨[]⟩, 14) := fun q e => by rw [← e]; rfl
  by_cases h1 : 1 < b.Columns.length
  · have h1' : (1 < (b.Columns.length : Int)) = True := eq_true (by omega)
    have h0' : ((b.Columns.length : Int) = 1) = False := eq_false (by omega)
    have hpk := pack_many (b := b) (k := k) (v := v) h1
    have hce : (rowKV b k v).Cells = k :: cutB v := by simp only [rowKV, if_pos h1]
    have hln : 1 + (cutB v).length = (rowKV b k v).Cells.length := by rw [hce, List.length_cons, Nat.add_comm]
    have hes : [AV.val (.string k)] :: (cutB v).map cStr = (rowKV b k v).Cells.map cStr := by rw [hce]; rfl
    simp (disch := (first | omega | (simp only [List.length_set, List.length_append, List.length_cons, List.length_nil]; done) | (simp only [List.length_set, List.length_append, List.length_cons, List.length_nil]; omega))) only [look_new, look_new3, go_sem, Nat.reduceEqDiff, Nat.reduceAdd, ↓reduceIte, lf_impl_unpacked, c_impl_unpacked, GTable.cells, h1', afill, Option.map_some, AV.cell, List.all_cons, List.all_nil, Bool.and_self]
    have hcl := cutB_len v
    refine split_more hv (fun H1 m1 l1 p4 => ?_)
    simp only [List.length_append, List.length_cons, List.length_nil, Nat.zero_add, Nat.reduceAdd] at l1 p4
    have p0 := m1.at (i := h0.length) (by rw [getA0]; rfl)
    have p1 := m1.at (i := h0.length + 1) (by rw [getAk]; rfl)
    have p2 := m1.at (i := h0.length + 2) (by rw [getAk]; rfl)
    have p3 := m1.at (i := h0.length + 3) (by rw [getAk]; rfl)
    have M1 := (More.app h0 _).trans m1
    clear m1
    simp (disch := (first | omega | (simp only [List.length_set, List.length_append, List.length_cons, List.length_nil]; done) | (simp only [List.length_set, List.length_append, List.length_cons, List.length_nil]; omega))) only [look_ne, look_hit, go_sem, Nat.reduceEqDiff, Nat.reduceAdd, ↓reduceIte, p0, p2, p3, p4, List.length_append, List.length_cons, List.length_nil, Nat.zero_add, Nat.reduceAdd, List.length_map]
    refine ⟨by omega, by omega, strs_cells _, ?_⟩
    rw [hln, hes]
    obtain ⟨H2, hH2⟩ : ∃ H2, H2 = (H1.set (h0.length + 2) ⟨.ty 9, 1, (rowKV b k v).Cells.map cStr⟩).set (h0.length + 3) ⟨.ty 27, 1, [[.own (h0.length + 2) (rowKV b k v).Cells.length]]⟩ := ⟨_, rfl⟩
    rw [← hH2]
    have q0 : H2[h0.length]? = some ⟨.ty 30, 4, [[.val (.string b.Name), .val (.string b.Global), .list 0 1 (b.Columns.map cStr), .list 0 1 (b.Indexes.map cStr)]]⟩ := by rw [hH2, look_ne (by omega), look_ne (by omega)]; exact p0
    have q1 : H2[h0.length + 1]? = some ⟨.ty 27, 1, [[.val (.slice none 0 0)]]⟩ := by rw [hH2, look_ne (by omega), look_ne (by omega)]; exact p1
    have q2 : H2[h0.length + 2]? = some ⟨.ty 9, 1, (rowKV b k v).Cells.map cStr⟩ := by rw [hH2, look_ne (by omega)]; exact look_hit (by omega)
    have q3 : H2[h0.length + 3]? = some ⟨.ty 27, 1, [[.own (h0.length + 2) (rowKV b k v).Cells.length]]⟩ := by rw [hH2]; exact look_hit (by simp; omega)
    have M2 : More h0 H2 := by rw [hH2]; exact (M1.set (by omega)).set (by omega)
    have ll2 : h0.length + 4 ≤ H2.length := by rw [hH2]; simp; omega
    clear hH2 p0 p1 p2 p3 p4 M1
    refine PureCall.call (hrow H2 _ (fin H2 M2 q2).arg) ?_
    cases r1 : rowOk b (rowKV b k v)
    · simp (disch := (first | omega | (simp only [List.length_set, List.length_append, List.length_cons, List.length_nil]; done) | (simp only [List.length_set, List.length_append, List.length_cons, List.length_nil]; omega))) only [look_hit, go_sem, Nat.reduceEqDiff, ↓reduceIte, q1, afill, Option.map_some, AV.cell, List.all_cons, List.all_nil, Bool.and_self, post_cell2]
      rw [hno false (by rw [r1]; rfl)]
      exact ⟨⟨M2.set (by omega), row2 (nilW (by simp; omega)) (by simp; omega) _⟩, _, rfl, _, rfl⟩
    have r2 : (rowKV b k v).Cells.length ≤ 1048576 ∧ ∀ s ∈ (rowKV b k v).Cells, s.size ≤ 11 := by
      have r3 := r1
      simp only [rowOk, Bool.and_eq_true, decide_eq_true_eq] at r3
      refine ⟨by omega, fun s hs => ?_⟩
      have := List.all_eq_true.1 r3.2 s hs
      simp only [cellOk, Bool.and_eq_true, decide_eq_true_eq] at this
      omega
    simp (disch := (first | omega | (simp only [List.length_set, List.length_append, List.length_cons, List.length_nil]; done) | (simp only [List.length_set, List.length_append, List.length_cons, List.length_nil]; omega))) only [go_sem, Nat.reduceEqDiff, ↓reduceIte, q3]
    refine PureCall.call (PureCall.own (fun h => impl_packed_ok (rowKV b k v) hrl.1 r2.1 r2.2 h) (ArgsOwn.cons (fin H2 M2 q2).arg ArgsOwn.nil)) ?_
    by_cases r4 : packB (rowKV b k v) = v
    case neg =>
      have r4' : (packB (rowKV b k v) = v) = False := eq_false r4
      simp (disch := (first | omega | (simp only [List.length_set, List.length_append, List.length_cons, List.length_nil]; done) | (simp only [List.length_set, List.length_append, List.length_cons, List.length_nil]; omega))) only [look_hit, go_sem, Nat.reduceEqDiff, ↓reduceIte, r4', q1, afill, Option.map_some, AV.cell, List.all_cons, List.all_nil, Bool.and_self, post_cell2]
      rw [hno false (by rw [r1, decide_eq_false r4]; rfl)]
      exact ⟨⟨M2.set (by omega), row2 (nilW (by simp; omega)) (by simp; omega) _⟩, _, rfl, _, rfl⟩
    have r4' : (packB (rowKV b k v) = v) = True := eq_true r4
    simp (disch := (first | omega | (simp only [List.length_set, List.length_append, List.length_cons, List.length_nil]; done) | (simp only [List.length_set, List.length_append, List.length_cons, List.length_nil]; omega))) only [look_hit, go_sem, Nat.reduceEqDiff, ↓reduceIte, r4', q1, q3, AV.cell, List.all_cons, List.all_nil, Bool.and_self, post_cell2]
    rw [hno true (by rw [r1, decide_eq_true r4]; rfl)]
    refine ⟨⟨M2.set (by omega), ?_⟩, _, rfl, _, rfl⟩
    rw [List.length_set]
    exact row2 (((rowF (lo := h0.length + 2) q2 (Nat.le_refl _)).keep (fun z z1 z2 => look_ne (by omega))).widen (by omega) (by omega)) (by omega) _
  · have h1' : (1 < (b.Columns.length : Int)) = False := eq_false (by omega)
    have h0' : ((b.Columns.length : Int) = 1) = True := eq_true (by omega)
    have hpk := pack_one (b := b) (k := k) (v := v) h1
    have hce : (rowKV b k v).Cells = [k] := by simp only [rowKV, if_neg h1]
    have hln : 1 = (rowKV b k v).Cells.length := by rw [hce]; rfl
    have hes : [[AV.val (.string k)]] = (rowKV b k v).Cells.map cStr := by rw [hce]; rfl
    simp (disch := (first | omega | (simp only [List.length_set, List.length_append, List.length_cons, List.length_nil]; done) | (simp only [List.length_set, List.length_append, List.length_cons, List.length_nil]; omega))) only [look_new, look_new3, go_sem, Nat.reduceEqDiff, Nat.reduceAdd, ↓reduceIte, lf_impl_unpacked, c_impl_unpacked, GTable.cells, h1', afill, Option.map_some, AV.cell, List.all_cons, List.all_nil, Bool.and_self]
    obtain ⟨H2, hH2⟩ : ∃ H2, H2 = h0 ++ [(⟨.ty 30, 4, [[.val (.string b.Name), .val (.string b.Global), .list 0 1 (b.Columns.map cStr), .list 0 1 (b.Indexes.map cStr)]]⟩ : Row), ⟨.ty 27, 1, [[.val (.slice none 0 0)]]⟩, ⟨.ty 9, 1, [[.val (.string k)]]⟩, ⟨.ty 27, 1, [[.own (h0.length + 2) 1]]⟩] := ⟨_, rfl⟩
    rw [← hH2]
    have q0 : H2[h0.length]? = some ⟨.ty 30, 4, [[.val (.string b.Name), .val (.string b.Global), .list 0 1 (b.Columns.map cStr), .list 0 1 (b.Indexes.map cStr)]]⟩ := by rw [hH2, getA0]; rfl
    have q1 : H2[h0.length + 1]? = some ⟨.ty 27, 1, [[.val (.slice none 0 0)]]⟩ := by rw [hH2, getAk]; rfl
    have q2 : H2[h0.length + 2]? = some ⟨.ty 9, 1, (rowKV b k v).Cells.map cStr⟩ := by rw [hH2, getAk, ← hes]; rfl
    have q3 : H2[h0.length + 3]? = some ⟨.ty 27, 1, [[.own (h0.length + 2) (rowKV b k v).Cells.length]]⟩ := by rw [hH2, getAk, ← hln]; rfl
    have M2 : More h0 H2 := by rw [hH2]; exact More.app _ _
    have ll2 : h0.length + 4 ≤ H2.length := by rw [hH2]; simp
    clear hH2
    have a1 : AV.agg [.own (h0.length + 2) 1] = .agg [.own (h0.length + 2) (rowKV b k v).Cells.length] := by rw [← hln]
    rw [a1]
    refine PureCall.call (hrow H2 _ (fin H2 M2 q2).arg) ?_
    cases r1 : rowOk b (rowKV b k v)
    · simp (disch := (first | omega | (simp only [List.length_set, List.length_append, List.length_cons, List.length_nil]; done) | (simp only [List.length_set, List.length_append, List.length_cons, List.length_nil]; omega))) only [look_hit, go_sem, Nat.reduceEqDiff, ↓reduceIte, q1, afill, Option.map_some, AV.cell, List.all_cons, List.all_nil, Bool.and_self, post_cell2]
      rw [hno false (by rw [r1]; rfl)]
      exact ⟨⟨M2.set (by omega), row2 (nilW (by simp; omega)) (by simp; omega) _⟩, _, rfl, _, rfl⟩
    have r2 : (rowKV b k v).Cells.length ≤ 1048576 ∧ ∀ s ∈ (rowKV b k v).Cells, s.size ≤ 11 := by
      have r3 := r1
      simp only [rowOk, Bool.and_eq_true, decide_eq_true_eq] at r3
      refine ⟨by omega, fun s hs => ?_⟩
      have := List.all_eq_true.1 r3.2 s hs
      simp only [cellOk, Bool.and_eq_true, decide_eq_true_eq] at this
      omega
    simp (disch := (first | omega | (simp only [List.length_set, List.length_append, List.length_cons, List.length_nil]; done) | (simp only [List.length_set, List.length_append, List.length_cons, List.length_nil]; omega))) only [go_sem, Nat.reduceEqDiff, ↓reduceIte, q3]
    refine PureCall.call (PureCall.own (fun h => impl_packed_ok (rowKV b k v) hrl.1 r2.1 r2.2 h) (ArgsOwn.cons (fin H2 M2 q2).arg ArgsOwn.nil)) ?_
    by_cases r4 : packB (rowKV b k v) = v
    case neg =>
      have r4' : (packB (rowKV b k v) = v) = False := eq_false r4
      simp (disch := (first | omega | (simp only [List.length_set, List.length_append, List.length_cons, List.length_nil]; done) | (simp only [List.length_set, List.length_append, List.length_cons, List.length_nil]; omega))) only [look_hit, go_sem, Nat.reduceEqDiff, ↓reduceIte, r4', q1, afill, Option.map_some, AV.cell, List.all_cons, List.all_nil, Bool.and_self, post_cell2]
      rw [hno false (by rw [r1, decide_eq_false r4]; rfl)]
      exact ⟨⟨M2.set (by omega), row2 (nilW (by simp; omega)) (by simp; omega) _⟩, _, rfl, _, rfl⟩
    have r4' : (packB (rowKV b k v) = v) = True := eq_true r4
    simp (disch := (first | omega | (simp only [List.length_set, List.length_append, List.length_cons, List.length_nil]; done) | (simp only [List.length_set, List.length_append, List.length_cons, List.length_nil]; omega))) only [look_hit, go_sem, Nat.reduceEqDiff, ↓reduceIte, r4', q1, q3, AV.cell, List.all_cons, List.all_nil, Bool.and_self, post_cell2]
    rw [hno true (by rw [r1, decide_eq_true r4]; rfl)]
    refine ⟨⟨M2.set (by omega), ?_⟩, _, rfl, _, rfl⟩
    rw [List.length_set]
    exact row2 (((rowF (lo := h0.length + 2) q2 (Nat.le_refl _)).keep (fun z z1 z2 => look_ne (by omega))).widen (by omega) (by omega)) (by omega) _
def c_spec_l29Unpack : LC :=
 .seq (.ops [⟨some 3, none, .box 30 (.tmp 0)⟩, ⟨some 6, none, .alloc 27 (.agg #[.slice none 0 0])⟩, ⟨some 7, none, .mov (.const (.int .i64 0))⟩]) (.seq (.ops [⟨some 9, none, .mov (.tmp 1)⟩, ⟨some 10, none, .buildSlice 9 1
 (.string ⟨#[]⟩) 1 [(0, .tmp 9)]⟩, ⟨some 11, none, .build (.agg #[.slice none 0 0]) [(0, 1)] [(0, .tmp 10)]⟩, ⟨some 8, none, .alloc 27 (.agg #[.slice none 0 0])⟩, ⟨none, none, .store 1 (.tmp 8) (.tmp 11)⟩]) (.seq (.seq
 (.ops [⟨some 12, none, .fieldAddr 2 (.tmp 3)⟩, ⟨some 13, none, .load none (.tmp 12)⟩, ⟨some 14, none, .lenSl (.tmp 13)⟩, ⟨some 15, none, .bin .gtr false (.tmp 14) (.const (.int .i64 1))⟩]) (.cond (.tmp 15) (.gops [⟨some
 16, none, .fieldAddr 0 (.tmp 8)⟩, ⟨some 17, none, .load none (.tmp 16)⟩, ⟨some 18, none, .mov (.tmp 2)⟩] [(⟨some 19, none, .call 24 [.tmp 18]⟩, [⟨some 16, none, .fieldAddr 0 (.tmp 8)⟩, ⟨some 17, none, .load none (.tmp
 16)⟩]), (⟨some 20, none, .append 9 1 16 (.tmp 17) (.tmp 19)⟩, []), (⟨some 21, none, .fieldAddr 0 (.tmp 8)⟩, []), (⟨none, none, .store 1 (.tmp 21) (.tmp 20)⟩, [])]) (.skip))) (.seq (.seq (.ops [⟨some 22, none, .fieldAddr 2
 (.tmp 3)⟩, ⟨some 23, none, .load none (.tmp 22)⟩, ⟨some 24, none, .lenSl (.tmp 23)⟩, ⟨some 25, none, .bin .eql false (.tmp 24) (.const (.int .i64 1))⟩, ⟨some 26, none, .mov (.tmp 25)⟩, ⟨some 27, (some (26, true)), .mov
 (.tmp 2)⟩, ⟨some 28, (some (26, true)), .bin .neq false (.tmp 27) (.const (.string ⟨#[]⟩))⟩, ⟨some 29, none, .pick (.tmp 26) (.tmp 28) (.const (.bool false))⟩, ⟨some 30, none, .mov (.tmp 29)⟩, ⟨some 31, (some (30,
 false)), .load (some 4) (.tmp 3)⟩, ⟨some 32, (some (30, false)), .load (some 1) (.tmp 8)⟩, ⟨some 33, (some (30, false)), .call 25 [.tmp 31, .tmp 32]⟩, ⟨some 34, (some (30, false)), .un .not (.tmp 33)⟩, ⟨some 35, none,
 .pick (.tmp 30) (.const (.bool true)) (.tmp 34)⟩]) (.cond (.tmp 35) (.seq (.ops [⟨some 36, none, .build (.agg #[.slice none 0 0]) [(0, 1)] []⟩, ⟨none, none, .store 1 (.tmp 6) (.tmp 36)⟩, ⟨some 7, none, .mov (.const (.int
 .i64 14))⟩]) (.ret)) (.skip))) (.seq (.ops [⟨some 37, none, .load (some 1) (.tmp 8)⟩, ⟨none, none, .store 1 (.tmp 6) (.tmp 37)⟩, ⟨some 7, none, .mov (.const (.int .i64 0))⟩]) (.ret)))))
def lf_spec_l29Unpack : LF := { np := 3, N := 38, body := c_spec_l29Unpack, res := [.cell 6 (some 1), .tmp 7] }
theorem low_spec_l29Unpack : LowF Tryd.prog Tryd.f15 lf_spec_l29Unpack := LowF.mk' (by kernel_rfl) (by kernel_rfl) (by kernel_rfl) (by decide)

theorem spec_l29Unpack_fresh (b : GTable) (k v : ByteArray) (hb : GTable.sz b ≤ 1048576) (hk : k.size ≤ 1048576) (hv : v.size ≤ 1048576) (hpos : 0 < b.Columns.length) : FreshCall Tryd.prog 15 [.agg (GTable.cells b), .val (.string k), .val (.string v)] (rowRes (unpack b k v)) RowQ := by
  refine fresh_fn2 mixed Tryd.func15 low_spec_l29Unpack rfl (fun h0 => ?_)
  have hc := szList_len (GTable.sz_Columns hb)
  have hrl := rowKV_len b k v hv
  have fin : ∀ H : List Row, More h0 H → H[h0.length + 2]? = some ⟨.ty 9, 1, (rowKV b k v).Cells.map cStr⟩ → FreshB h0.length H.length H (.agg [.own (h0.length + 2) (rowKV b k v).Cells.length]) (.agg (GRow.cells (rowKV b k v))) := fun H m o => (rowF o (by omega)).widen (Nat.le_refl _) (List.getElem?_eq_some_iff.1 o).1
  have hrow : ∀ (H : List Row) (A : AV), ArgOwn H A (.agg (GRow.cells (rowKV b k v))) → PureCall Tryd.prog 25 [.agg [.val (.string b.Name), .val (.string b.Global), .list 0 1 (b.Columns.map cStr), .list 0 1 (b.Indexes.map cStr)], A] H (.val (.bool (rowOk b (rowKV b k v)))) := fun H A hA => PureCall.own (fun h => spec_l29Row_gen b _ hb (rowKV_mem b k v hk hv) hpos h) (ArgsOwn.cons (ArgOwn.same rfl) (ArgsOwn.cons hA ArgsOwn.nil))
  have hno : ∀ q, (rowOk b (rowKV b k v) && decide (packB (rowKV b k v) = v)) = q → unpack b k v = if q = true then (rowKV b k v, 0) else (⟨[]⟩, 14) := fun q e => by rw [← e]; rfl
  by_cases h1 : 1 < b.Columns.length
  · have h1' : (1 < (b.Columns.length : Int)) = True := eq_true (by omega)
    have h0' : ((b.Columns.length : Int) = 1) = False := eq_false (by omega)
    have hpk := pack_many (b := b) (k := k) (v := v) h1
    have hce : (rowKV b k v).Cells = k :: cutB v := by simp only [rowKV, if_pos h1]
    have hln : 1 + (cutB v).length = (rowKV b k v).Cells.length := by rw [hce, List.length_cons, Nat.add_comm]
    have hes : [AV.val (.string k)] :: (cutB v).map cStr = (rowKV b k v).Cells.map cStr := by rw [hce]; rfl
    simp (disch := (first | omega | (simp only [List.length_set, List.length_append, List.length_cons, List.length_nil]; done) | (simp only [List.length_set, List.length_append, List.length_cons, List.length_nil]; omega))) only [look_new, look_new3, go_sem, Nat.reduceEqDiff, Nat.reduceAdd, ↓reduceIte, lf_spec_l29Unpack, c_spec_l29Unpack, GTable.cells, h1', afill, Option.map_some, AV.cell, List.all_cons, List.all_nil, Bool.and_self]
    have hcl := cutB_len v
    refine fresh_plain (spec_l29Cut_fresh v hv) (fun av H1 m1 F1 q4 => ?_)
    obtain ⟨lc, nc, rfl⟩ := q4
    obtain ⟨l4, rfl, E4, p4⟩ := strs_in F1.tree.fresh
    have l1 := m1.len
    simp only [List.length_append, List.length_cons, List.length_nil, Nat.zero_add, Nat.reduceAdd] at l1 l4
    have p0 := m1.at (i := h0.length) (by rw [getA0]; rfl)
    have p1 := m1.at (i := h0.length + 1) (by rw [getAk]; rfl)
    have p2 := m1.at (i := h0.length + 2) (by rw [getAk]; rfl)
    have p3 := m1.at (i := h0.length + 3) (by rw [getAk]; rfl)
    have M1 := (More.app h0 _).trans m1
    clear m1
    simp (disch := (first | omega | (simp only [List.length_set, List.length_append, List.length_cons, List.length_nil]; done) | (simp only [List.length_set, List.length_append, List.length_cons, List.length_nil]; omega))) only [look_ne, look_hit, go_sem, Nat.reduceEqDiff, Nat.reduceAdd, ↓reduceIte, p0, p2, p3, p4, List.length_cons, List.length_nil, Nat.zero_add, Nat.reduceAdd, List.length_map, h0']
    refine ⟨by omega, by omega, strs_cells _, ?_⟩
    rw [hln, hes]
    obtain ⟨H2, hH2⟩ : ∃ H2, H2 = (H1.set (h0.length + 2) ⟨.ty 9, 1, (rowKV b k v).Cells.map cStr⟩).set (h0.length + 3) ⟨.ty 27, 1, [[.own (h0.length + 2) (rowKV b k v).Cells.length]]⟩ := ⟨_, rfl⟩
    rw [← hH2]
    have q0 : H2[h0.length]? = some ⟨.ty 30, 4, [[.val (.string b.Name), .val (.string b.Global), .list 0 1 (b.Columns.map cStr), .list 0 1 (b.Indexes.map cStr)]]⟩ := by rw [hH2, look_ne (by omega), look_ne (by omega)]; exact p0
    have q1 : H2[h0.length + 1]? = some ⟨.ty 27, 1, [[.val (.slice none 0 0)]]⟩ := by rw [hH2, look_ne (by omega), look_ne (by omega)]; exact p1
    have q2 : H2[h0.length + 2]? = some ⟨.ty 9, 1, (rowKV b k v).Cells.map cStr⟩ := by rw [hH2, look_ne (by omega)]; exact look_hit (by omega)
    have q3 : H2[h0.length + 3]? = some ⟨.ty 27, 1, [[.own (h0.length + 2) (rowKV b k v).Cells.length]]⟩ := by rw [hH2]; exact look_hit (by simp; omega)
    have M2 : More h0 H2 := by rw [hH2]; exact (M1.set (by omega)).set (by omega)
    have ll2 : h0.length + 4 ≤ H2.length := by rw [hH2]; simp; omega
    clear hH2 p0 p1 p2 p3 p4 M1
    refine PureCall.call (hrow H2 _ (fin H2 M2 q2).arg) ?_
    have hpd : decide (packB (rowKV b k v) = v) = true := decide_eq_true (hpk)
    cases r1 : rowOk b (rowKV b k v)
    · simp (disch := (first | omega | (simp only [List.length_set, List.length_append, List.length_cons, List.length_nil]; done) | (simp only [List.length_set, List.length_append, List.length_cons, List.length_nil]; omega))) only [look_hit, go_sem, Nat.reduceEqDiff, ↓reduceIte, q1, afill, Option.map_some, AV.cell, List.all_cons, List.all_nil, Bool.and_self, post_cell2]
      rw [hno false (by rw [r1]; rfl)]
      exact ⟨⟨M2.set (by omega), row2 (nilW (by simp; omega)) (by simp; omega) _⟩, _, rfl, _, rfl⟩
    simp (disch := (first | omega | (simp only [List.length_set, List.length_append, List.length_cons, List.length_nil]; done) | (simp only [List.length_set, List.length_append, List.length_cons, List.length_nil]; omega))) only [look_hit, go_sem, Nat.reduceEqDiff, ↓reduceIte, q1, q3, AV.cell, List.all_cons, List.all_nil, Bool.and_self, post_cell2]
    rw [hno true (by rw [r1, hpd]; rfl)]
    refine ⟨⟨M2.set (by omega), ?_⟩, _, rfl, _, rfl⟩
    rw [List.length_set]
    exact row2 (((rowF (lo := h0.length + 2) q2 (Nat.le_refl _)).keep (fun z z1 z2 => look_ne (by omega))).widen (by omega) (by omega)) (by omega) _
  · have h1' : (1 < (b.Columns.length : Int)) = False := eq_false (by omega)
    have h0' : ((b.Columns.length : Int) = 1) = True := eq_true (by omega)
    have hpk := pack_one (b := b) (k := k) (v := v) h1
    have hce : (rowKV b k v).Cells = [k] := by simp only [rowKV, if_neg h1]
    have hln : 1 = (rowKV b k v).Cells.length := by rw [hce]; rfl
    have hes : [[AV.val (.string k)]] = (rowKV b k v).Cells.map cStr := by rw [hce]; rfl
    by_cases hv0 : v = txt []
    case neg =>
      have hv0' : (v = txt []) = False := eq_false hv0
      simp (disch := (first | omega | (simp only [List.length_set, List.length_append, List.length_cons, List.length_nil]; done) | (simp only [List.length_set, List.length_append, List.length_cons, List.length_nil]; omega))) only [look_new, look_new1, look_new3, go_sem, Nat.reduceEqDiff, Nat.reduceAdd, ↓reduceIte, lf_spec_l29Unpack, c_spec_l29Unpack, GTable.cells, h1', h0', hv0', afill, Option.map_some, AV.cell, List.all_cons, List.all_nil, Bool.and_self, post_cell2]
      have hpd : decide (packB (rowKV b k v) = v) = false := decide_eq_false (fun e => hv0 (by rw [← e, hpk]))
      rw [hno false (by rw [hpd, Bool.and_false])]
      exact ⟨⟨by first | exact More.app _ _ | exact (More.app _ _).set (by omega), row2 (nilW (by simp)) (by simp) _⟩, _, rfl, _, rfl⟩
    have hv0' : (v = txt []) = True := eq_true hv0
    simp (disch := (first | omega | (simp only [List.length_set, List.length_append, List.length_cons, List.length_nil]; done) | (simp only [List.length_set, List.length_append, List.length_cons, List.length_nil]; omega))) only [look_new, look_new3, go_sem, Nat.reduceEqDiff, Nat.reduceAdd, ↓reduceIte, lf_spec_l29Unpack, c_spec_l29Unpack, GTable.cells, h1', h0', hv0', afill, Option.map_some, AV.cell, List.all_cons, List.all_nil, Bool.and_self]
    obtain ⟨H2, hH2⟩ : ∃ H2, H2 = h0 ++ [(⟨.ty 30, 4, [[.val (.string b.Name), .val (.string b.Global), .list 0 1 (b.Columns.map cStr), .list 0 1 (b.Indexes.map cStr)]]⟩ : Row), ⟨.ty 27, 1, [[.val (.slice none 0 0)]]⟩, ⟨.ty 9, 1, [[.val (.string k)]]⟩, ⟨.ty 27, 1, [[.own (h0.length + 2) 1]]⟩] := ⟨_, rfl⟩
    rw [← hH2]
    have q0 : H2[h0.length]? = some ⟨.ty 30, 4, [[.val (.string b.Name), .val (.string b.Global), .list 0 1 (b.Columns.map cStr), .list 0 1 (b.Indexes.map cStr)]]⟩ := by rw [hH2, getA0]; rfl
    have q1 : H2[h0.length + 1]? = some ⟨.ty 27, 1, [[.val (.slice none 0 0)]]⟩ := by rw [hH2, getAk]; rfl
    have q2 : H2[h0.length + 2]? = some ⟨.ty 9, 1, (rowKV b k v).Cells.map cStr⟩ := by rw [hH2, getAk, ← hes]; rfl
    have q3 : H2[h0.length + 3]? = some ⟨.ty 27, 1, [[.own (h0.length + 2) (rowKV b k v).Cells.length]]⟩ := by rw [hH2, getAk, ← hln]; rfl
    have M2 : More h0 H2 := by rw [hH2]; exact More.app _ _
    have ll2 : h0.length + 4 ≤ H2.length := by rw [hH2]; simp
    clear hH2
    have a1 : AV.agg [.own (h0.length + 2) 1] = .agg [.own (h0.length + 2) (rowKV b k v).Cells.length] := by rw [← hln]
    rw [a1]
    refine PureCall.call (hrow H2 _ (fin H2 M2 q2).arg) ?_
    have hpd : decide (packB (rowKV b k v) = v) = true := decide_eq_true (hpk.trans hv0.symm)
    cases r1 : rowOk b (rowKV b k v)
    · simp (disch := (first | omega | (simp only [List.length_set, List.length_append, List.length_cons, List.length_nil]; done) | (simp only [List.length_set, List.length_append, List.length_cons, List.length_nil]; omega))) only [look_hit, go_sem, Nat.reduceEqDiff, ↓reduceIte, q1, afill, Option.map_some, AV.cell, List.all_cons, List.all_nil, Bool.and_self, post_cell2]
      rw [hno false (by rw [r1]; rfl)]
      exact ⟨⟨M2.set (by omega), row2 (nilW (by simp; omega)) (by simp; omega) _⟩, _, rfl, _, rfl⟩
    simp (disch := (first | omega | (simp only [List.length_set, List.length_append, List.length_cons, List.length_nil]; done) | (simp only [List.length_set, List.length_append, List.length_cons, List.length_nil]; omega))) only [look_hit, go_sem, Nat.reduceEqDiff, ↓reduceIte, q1, q3, AV.cell, List.all_cons, List.all_nil, Bool.and_self, post_cell2]
    rw [hno true (by rw [r1, hpd]; rfl)]
    refine ⟨⟨M2.set (by omega), ?_⟩, _, rfl, _, rfl⟩
    rw [List.length_set]
    exact row2 (((rowF (lo := h0.length + 2) q2 (Nat.le_refl _)).keep (fun z z1 z2 => look_ne (by omega))).widen (by omega) (by omega)) (by omega) _
def c_impl_UnpackRow : LC :=
 .seq (.ops [⟨some 3, none, .box 30 (.tmp 0)⟩, ⟨some 6, none, .alloc 27 (.agg #[.slice none 0 0])⟩, ⟨some 7, none, .mov (.const (.int .i64 0))⟩]) (.seq (.seq (.ops [⟨some 8, none, .load (some 4) (.tmp 3)⟩, ⟨some 9, none,
 .call 17 [.tmp 8]⟩, ⟨some 10, none, .un .not (.tmp 9)⟩]) (.cond (.tmp 10) (.seq (.ops [⟨some 11, none, .build (.agg #[.slice none 0 0]) [(0, 1)] []⟩, ⟨none, none, .store 1 (.tmp 6) (.tmp 11)⟩, ⟨some 7, none, .mov (.const
 (.int .i64 1))⟩]) (.ret)) (.skip))) (.seq (.ops [⟨some 12, none, .load (some 4) (.tmp 3)⟩, ⟨some 13, none, .mov (.tmp 1)⟩, ⟨some 14, none, .mov (.tmp 2)⟩, ⟨some 15, none, .call 18 [.tmp 12, .tmp 13, .tmp 14]⟩, ⟨some 16,
 none, .extract (.tmp 15) 0⟩, ⟨some 17, none, .extract (.tmp 15) 1⟩, ⟨none, none, .store 1 (.tmp 6) (.tmp 16)⟩, ⟨some 7, none, .mov (.tmp 17)⟩]) (.ret)))
def lf_impl_UnpackRow : LF := { np := 3, N := 18, body := c_impl_UnpackRow, res := [.cell 6 (some 1), .tmp 7] }
theorem low_impl_UnpackRow : LowF Tryd.prog Tryd.f7 lf_impl_UnpackRow := LowF.mk' (by kernel_rfl) (by kernel_rfl) (by kernel_rfl) (by decide)

theorem impl_UnpackRow_fresh (b : GTable) (k v : ByteArray) (hb : GTable.sz b ≤ 1048576) (hk : k.size ≤ 1048576) (hv : v.size ≤ 1048576) : FreshCall Tryd.prog 7 [.agg (GTable.cells b), .val (.string k), .val (.string v)] (rowRes (unpackR b k v)) RowQ := by
  refine fresh_fn2 mixed Tryd.func7 low_impl_UnpackRow rfl (fun h0 => ?_)
  have ht : ∀ H, PureCall Tryd.prog 17 [.agg [.val (.string b.Name), .val (.string b.Global), .list 0 1 (b.Columns.map cStr), .list 0 1 (b.Indexes.map cStr)]] H (.val (.bool (tableOk b))) := fun H => impl_TableOk_ok b hb H
  simp (disch := (first | omega | (simp only [List.length_set, List.length_append, List.length_cons, List.length_nil]; done) | (simp only [List.length_set, List.length_append, List.length_cons, List.length_nil]; omega))) only [look_new, go_sem, Nat.reduceEqDiff, Nat.reduceAdd, ↓reduceIte, lf_impl_UnpackRow, c_impl_UnpackRow, GTable.cells]
  refine PureCall.call (ht _) ?_
  cases q1 : tableOk b
  · have hR : unpackR b k v = (⟨[]⟩, 1) := by simp [unpackR, q1]
    simp (disch := (first | omega | (simp only [List.length_set, List.length_append, List.length_cons, List.length_nil]; done) | (simp only [List.length_set, List.length_append, List.length_cons, List.length_nil]; omega))) only [look_new1, go_sem, Nat.reduceEqDiff, ↓reduceIte, afill, Option.map_some, AV.cell, List.all_cons, List.all_nil, Bool.and_self, post_cell2]
    rw [hR]
    exact ⟨⟨by first | exact More.app _ _ | exact (More.app _ _).set (by omega), row2 (nilW (by simp)) (by simp) _⟩, _, rfl, _, rfl⟩
  have hR : unpackR b k v = unpack b k v := by simp [unpackR, q1]
  have hun : FreshCall Tryd.prog 18 [.agg [.val (.string b.Name), .val (.string b.Global), .list 0 1 (b.Columns.map cStr), .list 0 1 (b.Indexes.map cStr)], .val (.string k), .val (.string v)] (rowRes (unpack b k v)) RowQ := impl_unpacked_fresh b k v hb hk hv (table_pos q1)
  rw [hR]
  simp (disch := (first | omega | (simp only [List.length_set, List.length_append, List.length_cons, List.length_nil]; done) | (simp only [List.length_set, List.length_append, List.length_cons, List.length_nil]; omega))) only [look_new, go_sem, Nat.reduceEqDiff, Nat.reduceAdd, ↓reduceIte]
  refine fresh_plain hun (fun av H1 m1 F1 q3 => ?_)
  obtain ⟨r, cr, c, rfl⟩ := q3
  obtain ⟨G, hc⟩ := F1.two
  simp only [AV.val.injEq, Value.int.injEq, true_and] at hc
  subst hc
  have cr' := cr
  simp only [AV.cell, Value.oneCell'] at cr'
  have l1 := m1.len
  simp only [List.length_append, List.length_cons, List.length_nil] at l1
  have p1 := m1.at (i := h0.length + 1) (by rw [getAk]; rfl)
  simp (disch := (first | omega | (simp only [List.length_set, List.length_append, List.length_cons, List.length_nil]; done) | (simp only [List.length_set, List.length_append, List.length_cons, List.length_nil]; omega))) only [look_hit, go_sem, Nat.reduceEqDiff, ↓reduceIte, p1, cr', post_cell2]
  exact ⟨⟨((More.app h0 _).trans m1).set (by omega), row2 ((G.tree.keep fun z q _ => look_ne (by simp at q; omega)).widen (by simp) (by simp)) (by simp; omega) _⟩, _, cr, _, rfl⟩
def c_spec_UnpackRow : LC :=
 .seq (.ops [⟨some 3, none, .box 30 (.tmp 0)⟩, ⟨some 6, none, .alloc 27 (.agg #[.slice none 0 0])⟩, ⟨some 7, none, .mov (.const (.int .i64 0))⟩]) (.seq (.seq (.ops [⟨some 8, none, .load (some 4) (.tmp 3)⟩, ⟨some 9, none,
 .call 14 [.tmp 8]⟩, ⟨some 10, none, .un .not (.tmp 9)⟩]) (.cond (.tmp 10) (.seq (.ops [⟨some 11, none, .build (.agg #[.slice none 0 0]) [(0, 1)] []⟩, ⟨none, none, .store 1 (.tmp 6) (.tmp 11)⟩, ⟨some 7, none, .mov (.const
 (.int .i64 1))⟩]) (.ret)) (.skip))) (.seq (.ops [⟨some 12, none, .load (some 4) (.tmp 3)⟩, ⟨some 13, none, .mov (.tmp 1)⟩, ⟨some 14, none, .mov (.tmp 2)⟩, ⟨some 15, none, .call 15 [.tmp 12, .tmp 13, .tmp 14]⟩, ⟨some 16,
 none, .extract (.tmp 15) 0⟩, ⟨some 17, none, .extract (.tmp 15) 1⟩, ⟨none, none, .store 1 (.tmp 6) (.tmp 16)⟩, ⟨some 7, none, .mov (.tmp 17)⟩]) (.ret)))
def lf_spec_UnpackRow : LF := { np := 3, N := 18, body := c_spec_UnpackRow, res := [.cell 6 (some 1), .tmp 7] }
theorem low_spec_UnpackRow : LowF Tryd.prog Tryd.f5 lf_spec_UnpackRow := LowF.mk' (by kernel_rfl) (by kernel_rfl) (by kernel_rfl) (by decide)

theorem spec_UnpackRow_fresh (b : GTable) (k v : ByteArray) (hb : GTable.sz b ≤ 1048576) (hk : k.size ≤ 1048576) (hv : v.size ≤ 1048576) : FreshCall Tryd.prog 5 [.agg (GTable.cells b), .val (.string k), .val (.string v)] (rowRes (unpackR b k v)) RowQ := by
  refine fresh_fn2 mixed Tryd.func5 low_spec_UnpackRow rfl (fun h0 => ?_)
  have ht : ∀ H, PureCall Tryd.prog 14 [.agg [.val (.string b.Name), .val (.string b.Global), .list 0 1 (b.Columns.map cStr), .list 0 1 (b.Indexes.map cStr)]] H (.val (.bool (tableOk b))) := fun H => spec_l29Ok_ok b hb H
  simp (disch := (first | omega | (simp only [List.length_set, List.length_append, List.length_cons, List.length_nil]; done) | (simp only [List.length_set, List.length_append, List.length_cons, List.length_nil]; omega))) only [look_new, go_sem, Nat.reduceEqDiff, Nat.reduceAdd, ↓reduceIte, lf_spec_UnpackRow, c_spec_UnpackRow, GTable.cells]
  refine PureCall.call (ht _) ?_
  cases q1 : tableOk b
  · have hR : unpackR b k v = (⟨[]⟩, 1) := by simp [unpackR, q1]
    simp (disch := (first | omega | (simp only [List.length_set, List.length_append, List.length_cons, List.length_nil]; done) | (simp only [List.length_set, List.length_append, List.length_cons, List.length_nil]; omega))) only [look_new1, go_sem, Nat.reduceEqDiff, ↓reduceIte, afill, Option.map_some, AV.cell, List.all_cons, List.all_nil, Bool.and_self, post_cell2]
    rw [hR]
    exact ⟨⟨by first | exact More.app _ _ | exact (More.app _ _).set (by omega), row2 (nilW (by simp)) (by simp) _⟩, _, rfl, _, rfl⟩
  have hR : unpackR b k v = unpack b k v := by simp [unpackR, q1]
  have hun : FreshCall Tryd.prog 15 [.agg [.val (.string b.Name), .val (.string b.Global), .list 0 1 (b.Columns.map cStr), .list 0 1 (b.Indexes.map cStr)], .val (.string k), .val (.string v)] (rowRes (unpack b k v)) RowQ := spec_l29Unpack_fresh b k v hb hk hv (table_pos q1)
  rw [hR]
  simp (disch := (first | omega | (simp only [List.length_set, List.length_append, List.length_cons, List.length_nil]; done) | (simp only [List.length_set, List.length_append, List.length_cons, List.length_nil]; omega))) only [look_new, go_sem, Nat.reduceEqDiff, Nat.reduceAdd, ↓reduceIte]
  refine fresh_plain hun (fun av H1 m1 F1 q3 => ?_)
  obtain ⟨r, cr, c, rfl⟩ := q3
  obtain ⟨G, hc⟩ := F1.two
  simp only [AV.val.injEq, Value.int.injEq, true_and] at hc
  subst hc
  have cr' := cr
  simp only [AV.cell, Value.oneCell'] at cr'
  have l1 := m1.len
  simp only [List.length_append, List.length_cons, List.length_nil] at l1
  have p1 := m1.at (i := h0.length + 1) (by rw [getAk]; rfl)
  simp (disch := (first | omega | (simp only [List.length_set, List.length_append, List.length_cons, List.length_nil]; done) | (simp only [List.length_set, List.length_append, List.length_cons, List.length_nil]; omega))) only [look_hit, go_sem, Nat.reduceEqDiff, ↓reduceIte, p1, cr', post_cell2]
  exact ⟨⟨((More.app h0 _).trans m1).set (by omega), row2 ((G.tree.keep fun z q _ => look_ne (by simp at q; omega)).widen (by simp) (by simp)) (by simp; omega) _⟩, _, cr, _, rfl⟩
theorem spec_UnpackRow_ok (b : GTable) (k v : ByteArray) (hb : GTable.sz b ≤ 1048576) (hk : k.size ≤ 1048576) (hv : v.size ≤ 1048576) (h : List Row) : PureCall Tryd.prog 5 [.agg (GTable.cells b), .val (.string k), .val (.string v)] h (rowRes (unpackR b k v)) := (spec_UnpackRow_fresh b k v hb hk hv).pure rfl h
end Go.Proofs.YtkddmakjmjmokaaDoor
