/-
  AW, part 28: texts as lists of bytes; more arithmetic.
-/
import Derived.Test.YtleolgjneaekcabGreatDoorAwOwn
namespace Go.AW

/-- A text of these bytes. -/
def txt (l : List UInt8) : ByteArray := ⟨l.toArray⟩
theorem txt_of (s : ByteArray) : s = txt s.data.toList := by cases s; rfl
theorem txt_lit (l : List UInt8) : (⟨l.toArray⟩ : ByteArray) = txt l := rfl
theorem txt_size (l : List UInt8) : (txt l).size = l.length := by simp [txt, ByteArray.size]
theorem txt_data (l : List UInt8) : (txt l).data.toList = l := by simp [txt]
theorem txt_toList (l : List UInt8) : (txt l).toList = l := by rw [toList_data, txt_data]
theorem txt_inj (a b : List UInt8) : (txt a = txt b) = (a = b) := by
  apply propext; constructor
  · intro h; have := congrArg (fun x => x.data.toList) h; simpa [txt_data] using this
  · intro h; rw [h]
theorem txt_get (l : List UInt8) (i : Nat) : (txt l)[i]? = l[i]? := by
  by_cases h : i < l.length
  · rw [getElem?_pos (txt l) i (by rw [txt_size]; exact h), List.getElem?_eq_getElem h]
    congr 1
  · rw [getElem?_neg (txt l) i (by rw [txt_size]; exact h), List.getElem?_eq_none (by omega)]
theorem txt_extract (l : List UInt8) (i j : Nat) : (txt l).extract i j = txt ((l.take j).drop i) := by
  rw [txt_of ((txt l).extract i j)]
  congr 1
  rw [ByteArray.data_extract]
  simp [txt, List.extract_eq_drop_take', ]
theorem txt_app (a b : List UInt8) : txt a ++ txt b = txt (a ++ b) := by
  rw [txt_of (txt a ++ txt b)]
  congr 1
theorem bin_sadd (q : Bool) (a b : List UInt8) (h : a.length + b.length ≤ 9223372036854775807) : binEval .add q (.val (.string (txt a))) (.val (.string (txt b))) = some (.val (.string (txt (a ++ b)))) := by
  simp only [binEval, binOp, Op.stringOp, txt_size]
  have h' : ¬ (((a.length + b.length : Nat) : Int) > IntKind.i64.max) := by
    have : IntKind.i64.max = 9223372036854775807 := by decide
    rw [this]; omega
  rw [if_neg h', txt_app]
  rfl
theorem bin_quo (q : Bool) (a b : Int) (hb : b ≠ 0) : binEval .quo q (.val (.int .i64 a)) (.val (.int .i64 b)) = some (.val (.int .i64 (IntKind.i64.wrap (a.tdiv b)))) := by
  have : binEval .quo q (.val (.int .i64 a)) (.val (.int .i64 b)) = purely (Op.intDiv .quo .i64 a b) := rfl
  rw [this, Op.intDiv, if_neg hb]; rfl
theorem bin_rem (q : Bool) (a b : Int) (hb : b ≠ 0) : binEval .rem q (.val (.int .i64 a)) (.val (.int .i64 b)) = some (.val (.int .i64 (a.tmod b))) := by
  have : binEval .rem q (.val (.int .i64 a)) (.val (.int .i64 b)) = purely (Op.intDiv .rem .i64 a b) := rfl
  rw [this, Op.intDiv, if_neg hb]; rfl
theorem bin_sub8 (q : Bool) (a b : Int) : binEval .sub q (.val (.int .u8 a)) (.val (.int .u8 b)) = some (.val (.int .u8 (IntKind.u8.wrap (a - b)))) := rfl
theorem wrap_u8_in {n : Int} (h1 : 0 ≤ n) (h2 : n ≤ 255) : IntKind.u8.wrap n = n := by
  rw [IntKind.wrap_u8]; omega
theorem tdiv_pos {a b : Int} (h : 0 ≤ a) : a.tdiv b = a / b := Int.tdiv_eq_ediv_of_nonneg h
theorem tmod_pos {a b : Int} (h : 0 ≤ a) : a.tmod b = a % b := Int.tmod_eq_emod_of_nonneg h
theorem u8_lt (b : UInt8) : b.toNat < 256 := b.toNat_lt
theorem u8_eq (b c : UInt8) : (((b.toNat : Nat) : Int) = ((c.toNat : Nat) : Int)) = (b = c) := by
  apply propext; constructor
  · intro h; exact UInt8.toNat_inj.1 (by omega)
  · intro h; rw [h]
theorem asByte_u8 (b : UInt8) : asByte [.val (.int .u8 b.toNat)] = some b := by
  simp [asByte]
theorem asByte_int {n : Int} (h1 : 0 ≤ n) (h2 : n ≤ 255) : asByte [.val (.int .u8 n)] = some (UInt8.ofNat n.toNat) := by
  simp only [asByte]
  have : ((UInt8.ofNat n.toNat).toNat : Int) = n := by
    rw [UInt8.toNat_ofNat']; omega
  rw [if_pos this]
theorem byteCells_get (l : List UInt8) (i : Nat) : (byteCells l)[i]? = (l[i]?).map fun b => [.val (.int .u8 b.toNat)] := by simp [byteCells]
theorem byteCells_len (l : List UInt8) : (byteCells l).length = l.length := by simp [byteCells]
theorem mapM_bytes : ∀ (l : List UInt8), (byteCells l).mapM asByte = some l
  | [] => rfl
  | b :: l => by
    have := mapM_bytes l
    simp only [byteCells, List.map_cons, List.mapM_cons] at this ⊢
    rw [asByte_u8]
    simp [this]
theorem drop_at {α : Type} (l : List α) (k : Nat) (h : k < l.length) : l.drop k = l[k] :: l.drop (k + 1) := List.drop_eq_getElem_cons h
theorem ite_nle {α : Type} {a b : Nat} {x y : α} (h : a ≤ b) : (if a ≤ b then x else y) = x := if_pos h
theorem ite_ile {α : Type} {a b : Int} {x y : α} (h : a ≤ b) : (if a ≤ b then x else y) = x := if_pos h
theorem ite_nle2 {α : Type} {a b c d : Nat} {x y : α} (h : a ≤ b) (h2 : c ≤ d) : (if a ≤ b ∧ c ≤ d then x else y) = x := if_pos ⟨h, h2⟩
attribute [go_sem] List.getElem_cons_zero List.getElem_cons_succ
theorem all_one {p : List AV → Prop} (x : List AV) : (∀ e ∈ [x], p e) = p x := by simp
theorem range1 : List.range 1 = [0] := rfl
theorem range2 : List.range 2 = [0, 1] := rfl
theorem range3 : List.range 3 = [0, 1, 2] := rfl
section
variable {P : Program} {N : Nat} {Q : Post} {t : Nat → AV} {h : List Row}
theorem ExK_ret : ∀ (k : List Fr) (t : Nat → AV) (h : List Row), ExK P N Q k .ret t h = Q .ret t h
  | [], t, h => ExK_nil .ret
  | .seq b :: k, t, h => by rw [ExK_seq_ret, ExK_ret k]
  | .blk i :: k, t, h => by rw [ExK_blk_ret, ExK_ret k]
  | .loop I n :: k, t, h => by rw [ExK_loop_ret, ExK_ret k]
/-- A loop in its block: rounds, and where it is left (E); then what follows, once. -/
theorem Ex_loop_out {b : LC} {id : Nat} {k : List Fr} (I : Nat → (Nat → AV) → List Row → Prop) (n : Nat) (E : (Nat → AV) → List Row → Prop) (h0 : I n t h)
    (hr : ∀ (J : Nat → (Nat → AV) → List Row → Prop), (∀ m t h, I m t h → J m t h) → ∀ (k' : List Fr), (∀ t h, E t h → ExK P N Q k' .normal t h) → ∀ n t h, I n t h → Ex P N Q b (.loop J n :: .blk id :: k') t h)
    (hx : ∀ t h, E t h → ExK P N Q k .normal t h) : Ex P N Q (.loop b) (.blk id :: k) t h :=
  Ex_loop I n h0 fun J hJ n t h hi => hr J hJ k hx n t h hi
end
theorem range0 : List.range 0 = [] := rfl
attribute [go_sem] range0 srcOf all_one range1 range2 range3 AV.flat List.mapM_cons
attribute [go_sem] ite_nle ite_ile ite_nle2 txt_lit txt_size txt_data txt_toList txt_inj txt_get txt_extract bin_sadd bin_quo bin_rem bin_mul bin_sub8 wrap_u8_in tdiv_pos tmod_pos asByte_u8 asByte_int byteCells_get byteCells_len un_neg
theorem RepL_vals' (S : Sit) : ∀ vs : List Value, RepL S (vs.map AV.val) vs
  | [] => by simp [RepL]
  | v :: vs => by simp only [List.map_cons, RepL]; exact ⟨v, vs, rfl, by simp [Rep], RepL_vals' S vs⟩
/-- A contract of the shelf that gives several plain values. -/
theorem shelf_tup {P : Program} {f : FuncId} {vals us : List Value}
    (hc : ∀ w, (∀ p ∈ tabs, (P.globalNamed p.1).isSome = true → w.var? P p.1 = some p.2) → Calls P f vals.toArray w fun e w' => e = .returned (.tuple us.toArray) ∧ RowKit.Below w.heap.size w w') (h : List Row) : PureCall P f (vals.map AV.val) h (.tup (us.map AV.val)) := by
  intro K hk S w xs hm hgl hr
  have e := RepL_valsM hr
  have e' : xs = vals.toArray := by cases xs; simp at e; rw [e]
  subst e'
  refine (hc w ?_).mono ?_
  · intro p hp hs
    obtain ⟨g, hg⟩ := Option.isSome_iff_exists.1 hs
    obtain ⟨E, fr, hw⟩ := hm.imm g p.2 (hgl.1 p hp g hg)
    simp only [World.var?, hg, Option.bind_some, hw]
  · rintro e w' ⟨rfl, b⟩
    exact ⟨_, .tup (us.map AV.val), S, h, rfl, Step.below b, hm.below b, by simp only [Rep]; exact ⟨_, rfl, by simpa using RepL_vals' S us⟩, hk⟩
end Go.AW
