/-
 The order of texts, of lists of texts and of places is a strict total order. Nothing of any program.
-/
import Derived.Test.YtlcmlgihlojdmaaGreatDoorPlKey
namespace Go.AW
set_option linter.unusedSimpArgs false
theorem mN_:∀a b c:List UInt8,Op.bytesLess a b=true→Op.bytesLess b c=true→Op.bytesLess a c=true
 | [],[],_,h,_=>by simp[Op.bytesLess]at h
 | _::_,[],_,h,_=>by simp[Op.bytesLess]at h
 | [],_::_,[],_,h=>by simp[Op.bytesLess]at h
 | [],_::_,_::_,_,_=>rfl
 | _::_,_::_,[],_,h=>by simp[Op.bytesLess]at h
 | x::a,y::b,z::c,h1,h2=>by
  simp only[Op.bytesLess,Bool.or_eq_true,Bool.and_eq_true,decide_eq_true_eq,beq_iff_eq]at h1 h2⊢
  rcases h1 with h1|⟨h1,k1⟩
  ·rcases h2 with h2|⟨h2,k2⟩
   ·exact .inl (UInt8.lt_trans h1 h2)
   ·subst h2;exact .inl h1
  ·subst h1
   rcases h2 with h2|⟨h2,k2⟩
   ·exact .inl h2
   ·exact .inr ⟨h2,mN_ a b c k1 k2⟩
end Go.AW
