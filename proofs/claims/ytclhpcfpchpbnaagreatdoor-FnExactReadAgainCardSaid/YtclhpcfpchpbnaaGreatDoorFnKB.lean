/-
  Contracts of functions of this program, over abstract values. Conditions: as each theorem says.
-/
import Derived.Test.YtclhpcfpchpbnaaGreatDoorFnKA
import Derived.Test.YtclhpcfpchpbnaaGreatDoorAwBld
import Derived.Test.YtclhpcfpchpbnaaGreatDoorAwBits
namespace Go.Proofs.YtclhpcfpchpbnaaGreatDoor
open Go.AW
set_option linter.unusedVariables false
set_option linter.unusedSimpArgs false
set_option maxRecDepth 4000

abbrev bldP (b : Nat) : AV := .val (.pointer (some ⟨b, 0, none⟩))
theorem wByte {b : Nat} {l : List UInt8} {c : UInt8} {K : AV → Bd → Prop} (hlen : l.length + 1 ≤ 140737488355328) (hk : K (.val .nilIface) (some (b, l ++ [c]))) : callB Tryz.prog 180 5 226 [bldP b, .val (.int .u8 c.toNat)] (some (b, l)) K :=
  callB_put (vals := [.int .u8 c.toNat]) (r := .nilIface) (new := [c]) (fun B w h hB => (Any.Builder_WriteByte_k Tryz.lays167 Tryz.Builder_Extra_167 B b (Lib.byteCells l) c.toNat w h (by rw [Lib.byteCells_length]; exact hlen) hB).mono (by
    rintro en w' ⟨rfl, h1, h2, _⟩
    refine ⟨rfl, .inr ?_, h2⟩
    have e : Lib.byteCells (l ++ [c]) = Lib.byteCells l ++ [.int .u8 c.toNat] := by simp [Lib.byteCells]
    rw [e]; exact h1)) hk
theorem wStr {b : Nat} {l s : List UInt8} {K : AV → Bd → Prop} (hlen : l.length + s.length ≤ 140737488355328) (hk : ∀ r : Value, K (.val r) (some (b, l ++ s))) : callB Tryz.prog 180 5 227 [bldP b, .val (.string (txt s))] (some (b, l)) K :=
  callB_put (vals := [.string (txt s)]) (r := .tuple #[.int .i64 (txt s).size, .nilIface]) (new := s) (fun B w h hB => (Any.Builder_WriteString_k Tryz.lays166 Tryz.Builder_Extra_166 B b (Lib.byteCells l) (txt s) w h (by rw [Lib.byteCells_length, txt_size]; exact hlen) hB).mono (by
    rintro en w' ⟨rfl, h1, h2, _⟩
    refine ⟨rfl, .inr ?_, h2⟩
    have e : Lib.byteCells (l ++ s) = Lib.byteCells l ++ Lib.strCells (txt s) := by simp [Lib.byteCells, Lib.strCells, txt]
    rw [e]; exact h1)) (hk _)
theorem wText {b : Nat} {l : List UInt8} {K : AV → Bd → Prop} (hk : K (.val (.string (txt l))) (some (b, l))) : callB Tryz.prog 180 5 201 [bldP b] (some (b, l)) K := by
  refine callB_put (vals := []) (r := .string (txt l)) (new := []) (fun B w h hB => (Any.Builder_String_any_k Tryz.lays169 Tryz.Builder_Extra_169 B b l w h hB).mono (by
    rintro en w' ⟨rfl, h1, h2, _⟩
    refine ⟨rfl, ?_, h2⟩
    rw [List.append_nil]; exact h1)) (by rw [List.append_nil]; exact hk)
theorem strings_ReplaceAll_ok (s : List UInt8) (hs : s.length ≤ 1048576) (h : List Row) : PureCall Tryz.prog 228 [.val (.string (txt s)), .val (.string (txt [0])), .val (.string (txt [0, 255]))] h (.val (.string (txt (esc s)))) := by
  refine shelf_pureM (vals := [.string (txt s), .string (txt [0]), .string (txt [0, 255])]) (fun w hM => ?_) h
  obtain ⟨m, hm⟩ := hM (Tryz.lays155_ren.g 1) (by kernel_rfl)
  have hc : Lib.countB (txt s) (txt [0]) ≤ s.length := by
    show Lib.count (txt s).data.toList (txt [0]).data.toList ≤ _
    rw [txt_data, txt_data, Lib.count_one]; exact List.count_le_length
  have := Any.strings_ReplaceAll Tryz.lays155 Tryz.Builder_Extra_155 (txt s) (txt [0]) (txt [0, 255]) m w (by rw [txt_size]; omega) hm (by rw [txt_size]; decide) (by rw [txt_size, txt_size]; simp only [List.length_cons, List.length_nil]; omega)
  rw [txt_data, txt_data, txt_data, replaceAll_esc] at this
  exact this
end Go.Proofs.YtclhpcfpchpbnaaGreatDoor
