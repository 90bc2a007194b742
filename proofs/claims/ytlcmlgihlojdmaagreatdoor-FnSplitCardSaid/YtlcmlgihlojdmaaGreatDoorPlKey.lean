/-
 The order of texts and of lists of texts, as both programs reckon it. Nothing of any program.
-/
import Derived.Test.YtlcmlgihlojdmaaGreatDoorPlNum
import GoSem.Op.String
namespace Go.AW
set_option linter.unusedSimpArgs false
open List
theorem iB_:∀a:List UInt8,Op.bytesLess a a=false
 | []=>rfl
 | x::a=>by simp[Op.bytesLess,iB_ a,UInt8.lt_irrefl]
theorem jj_:∀a b:List UInt8,Op.bytesLess a b=false→Op.bytesLess b a=false→a=b
 | [],[],_,_=>rfl
 | [],_::_,h,_=>by simp[Op.bytesLess]at h
 | _::_,[],_,h=>by simp[Op.bytesLess]at h
 | x::a,y::b,h1,h2=>by
  simp only[Op.bytesLess,Bool.or_eq_false_iff,Bool.and_eq_false_iff,decide_eq_false_iff_not,beq_eq_false_iff_ne]at h1 h2
  have e:x=y:=UInt8.le_antisymm (UInt8.not_lt.1 h2.1) (UInt8.not_lt.1 h1.1)
  subst e
  rw[jj_ a b (by simpa using h1.2) (by simpa using h2.2)]
theorem iR_:∀a b:List UInt8,Op.bytesLess a b=true→Op.bytesLess b a=false
 | [],[],h=>by simp[Op.bytesLess]at h
 | [],_::_,_=>rfl
 | _::_,[],h=>by simp[Op.bytesLess]at h
 | x::a,y::b,h=>by
  simp only[Op.bytesLess,Bool.or_eq_true,Bool.and_eq_true,decide_eq_true_eq,beq_iff_eq]at h
  simp only[Op.bytesLess,Bool.or_eq_false_iff,Bool.and_eq_false_iff,decide_eq_false_iff_not,beq_eq_false_iff_ne]
  rcases h with h|⟨h,k⟩
  ·exact⟨fun q=>UInt8.lt_irrefl x (UInt8.lt_trans h q),.inl fun e=>by subst e;exact UInt8.lt_irrefl _ h⟩
  ·subst h
   exact⟨UInt8.lt_irrefl _,.inr (iR_ a b k)⟩
def before(a b:List UInt8):Bool:=if dI_ a&&dI_ b then decide (b3_ a<b3_ b)else if dI_ a != dI_ b then dI_ a else Op.bytesLess a b
def dd_(n j:Nat):UInt8:=UInt8.ofNat (n / 256 ^ j % 256)
def be8(n:Nat):List UInt8:=[dd_ n 7,dd_ n 6,dd_ n 5,dd_ n 4,dd_ n 3,dd_ n 2,dd_ n 1,dd_ n 0]
def b8_(acc:Nat)(l:List UInt8):Nat:=l.foldl (fun a b=>a * 256+b.toNat) acc
theorem kD_(n j:Nat):(dd_ n j).toNat=n / 256 ^ j % 256:=by
 unfold dd_;rw[UInt8.toNat_ofNat'];omega
theorem o2_(n:Nat)(h:n<18446744073709551616):b8_ 0 (be8 n)=n:=by
 simp only[b8_,be8,foldl_cons,foldl_nil,kD_,Nat.reducePow]
 omega
theorem pv_(acc:Nat):b8_ acc []=acc:=by unfold b8_;rw[foldl_nil]
theorem ty_(acc:Nat)(b:UInt8)(l:List UInt8):b8_ acc (b::l)=b8_ (acc * 256+b.toNat) l:=by unfold b8_;rw[foldl_cons]
theorem nD_:∀(l:List UInt8) (acc:Nat),b8_ acc l<(acc+1) * 256 ^ l.length
 | [],acc=>by rw[pv_];simp
 | b::l,acc=>by
  rw[ty_]
  have h:=nD_ l (acc * 256+b.toNat)
  have hb:=b.toNat_lt
  have h2:(acc * 256+b.toNat+1) * 256 ^ l.length≤((acc+1) * 256) * 256 ^ l.length:=Nat.mul_le_mul_right _ (by omega)
  rw[List.length_cons,Nat.pow_succ,Nat.mul_comm (256 ^ l.length),←Nat.mul_assoc]
  omega
def esc:List UInt8→List UInt8
 | []=>[]
 | b::l=>if b=0 then 0::255::esc l else b::esc l
def c1_(l:List UInt8):Nat:=(b3_ l+1000000000000000000).toNat
def ch_(l:List UInt8):List UInt8:=if dI_ l then 1::be8 (c1_ l)else 2::(esc l++[0,0])
def bW_(xs:List (List UInt8)):List UInt8:=xs.flatMap ch_
theorem p4_:bW_ []=[]:=rfl
theorem j4_(x:List UInt8)(xs:List (List UInt8)):bW_ (x::xs)=ch_ x++bW_ xs:=rfl
theorem tI_(l:List UInt8):ch_ l≠[]:=by unfold ch_;split<;>simp
theorem id_(l:List UInt8):1≤c1_ l∧c1_ l≤1999999999999999999:=by
 have:=er_ l
 unfold c1_;omega
theorem ih_(l:List UInt8):((c1_ l:Nat):Int)=b3_ l+1000000000000000000:=by
 have:=er_ l
 unfold c1_;omega
theorem jd_:∀l:List UInt8,(esc l).length≤2 * l.length
 | []=>by simp[esc]
 | b::l=>by
  have:=jd_ l
  unfold esc
  split<;>simp only[List.length_cons]<;>omega
theorem gU_(l:List UInt8):(ch_ l).length≤2 * l.length+9:=by
 have:=jd_ l
 unfold ch_
 split
 ·simp[be8]
 ·simp only[List.length_cons,List.length_append,List.length_nil];omega
def cd_:List UInt8→List UInt8→Option (List UInt8×List UInt8)
 | b::c::r,acc=>if b=0 then(if c=0 then some (acc,r)else if c=255 then cd_ r (acc++[0])else none)else cd_ (c::r) (acc++[b])
 | [_],_=>none
 | [],_=>none
theorem gL_(b c:UInt8)(r acc:List UInt8):cd_ (b::c::r) acc=if b=0 then(if c=0 then some (acc,r)else if c=255 then cd_ r (acc++[0])else none)else cd_ (c::r) (acc++[b]):=by
 rw[cd_]
theorem q1_(l acc:List UInt8)(h:l.length<2):cd_ l acc=none:=by
 match l,h with
 | [],_=>rw[cd_]
 | [_],_=>rw[cd_]
theorem mX_(l acc:List UInt8)(i:Nat)(h:i+1<l.length):cd_ (l.drop i) acc=if l[i]=0 then(if l[i+1]=0 then some (acc,l.drop (i+2))else if l[i+1]=255 then cd_ (l.drop (i+2)) (acc++[0])else none)else cd_ (l.drop (i+1)) (acc++[l[i]]):=by
 rw[drop_eq_getElem_cons (by omega:i<l.length),drop_eq_getElem_cons h,gL_]
theorem ol_(l acc:List UInt8)(i:Nat)(h:l.length≤i+1):cd_ (l.drop i) acc=none :=
 q1_ _ _ (by rw[length_drop];omega)
theorem hU_:∀(l acc t r:List UInt8),cd_ l acc=some (t,r)→t.length≤acc.length+l.length∧r.length≤l.length
 | [],acc,t,r,h=>by rw[cd_]at h;cases h
 | [_],acc,t,r,h=>by rw[cd_]at h;cases h
 | b::c::l,acc,t,r,h=>by
  rw[gL_]at h
  split at h
  ·split at h
   ·simp only[Option.some.injEq,Prod.mk.injEq]at h
    obtain⟨rfl,rfl⟩:=h
    simp only[List.length_cons];omega
   ·split at h
    ·have:=hU_ l _ t r h
     simp only[List.length_append,List.length_cons,List.length_nil]at this⊢;omega
    ·cases h
  ·have:=hU_ (c::l) _ t r h
   simp only[List.length_append,List.length_cons,List.length_nil]at this⊢;omega
theorem j2_:∀(x rest acc:List UInt8),cd_ (esc x++(0::0::rest)) acc=some (acc++x,rest)
 | [],rest,acc=>by
  rw[esc,nil_append,gL_,if_pos rfl,if_pos rfl,append_nil]
 | b::x,rest,acc=>by
  have ih:=j2_ x rest (acc++[b])
  by_cases h:b=0
  ·subst h
   rw[esc,if_pos rfl,cons_append,cons_append,gL_,if_pos rfl,if_neg (by decide),if_pos rfl,ih,append_assoc]
   rfl
  ·rw[esc,if_neg h,cons_append]
   cases hq:esc x++(0::0::rest)with
   | nil=>simp at hq
   | cons c r=>rw[gL_,if_neg h,←hq,ih,append_assoc];rfl
def gh_(n:Int):List UInt8:=if -999999999999999999≤n∧n≤999999999999999999 then a3_ n else []
def dz_:List UInt8→Option (List UInt8×List UInt8)
 | []=>none
 | b::l=>if b=1 then(if l.length<8 then none else if 2000000000000000000<b8_ 0 (l.take 8)then none else some (gh_ ((b8_ 0 (l.take 8):Int)-1000000000000000000),l.drop 8))
  else if b=2 then cd_ l []else none
def dh_:List UInt8→Option (List UInt8×List UInt8)
 | []=>none
 | b::l=>if b=1∧8≤l.length then(if 1≤b8_ 0 (l.take 8)∧b8_ 0 (l.take 8)≤1999999999999999999 then some (a3_ ((b8_ 0 (l.take 8):Int)-1000000000000000000),l.drop 8)else none)
  else if b=2 then cd_ l []else none
theorem dG_(n:Nat):(be8 n).length=8:=rfl
theorem pm_(n:Nat)(r:List UInt8):(be8 n++r).take 8=be8 n:=take_left' (dG_ n)
theorem qm_(n:Nat)(r:List UInt8):(be8 n++r).drop 8=r:=drop_left' (dG_ n)
theorem h6_(x r:List UInt8):dz_ (ch_ x++r)=some (x,r):=by
 unfold ch_
 by_cases h:dI_ x=true
 ·have hk:=id_ x
  have hq:=ih_ x
  rw[if_pos h,cons_append,dz_,if_pos rfl,if_neg (by simp[dG_]),pm_,qm_,o2_ _ (by omega),if_neg (by omega)]
  have e:((c1_ x:Nat):Int)-1000000000000000000=b3_ x:=by omega
  have hn:=er_ x
  rw[e,gh_,if_pos hn,of_decide_eq_true (by exact h:decide (a3_ (b3_ x)=x)=true)]
 ·rw[if_neg h,cons_append,dz_,if_neg (by decide),if_pos rfl,append_assoc]
  exact j2_ x r []
theorem n6_(x r:List UInt8):dh_ (ch_ x++r)=some (x,r):=by
 unfold ch_
 by_cases h:dI_ x=true
 ·have hk:=id_ x
  have hq:=ih_ x
  rw[if_pos h,cons_append,dh_,if_pos ⟨rfl,by simp[dG_]⟩,pm_,qm_,o2_ _ (by omega),if_pos (by omega)]
  have e:((c1_ x:Nat):Int)-1000000000000000000=b3_ x:=by omega
  rw[e,of_decide_eq_true (by exact h:decide (a3_ (b3_ x)=x)=true)]
 ·rw[if_neg h,cons_append,dh_,if_neg (by rintro⟨q,_⟩;exact absurd q (by decide)),if_pos rfl,append_assoc]
  exact j2_ x r []
theorem n1_(l t r:List UInt8)(h:dz_ l=some (t,r)):t.length≤l.length+20∧r.length<l.length:=by
 cases l with
 | nil=>cases h
 | cons b l =>
  rw[dz_]at h
  split at h
  ·split at h
   ·cases h
   ·split at h
    ·cases h
    ·simp only[Option.some.injEq,Prod.mk.injEq]at h
     obtain⟨rfl,rfl⟩:=h
     refine⟨?_,by simp only[length_drop,List.length_cons];omega⟩
     unfold gh_
     split
     ·rename_i q;have:=e2_ q.1 q.2;simp only[List.length_cons];omega
     ·simp
  ·split at h
   ·have:=hU_ l [] t r h
    simp only[List.length_nil,List.length_cons]at this⊢;omega
   ·cases h
theorem tP_(l t r:List UInt8)(h:dh_ l=some (t,r)):t.length≤l.length+20∧r.length<l.length:=by
 cases l with
 | nil=>cases h
 | cons b l =>
  rw[dh_]at h
  split at h
  ·split at h
   ·rename_i q
    simp only[Option.some.injEq,Prod.mk.injEq]at h
    obtain⟨rfl,rfl⟩:=h
    refine⟨?_,by simp only[length_drop,List.length_cons];omega⟩
    have:=e2_ (n:=(b8_ 0 (l.take 8):Int)-1000000000000000000) (by omega) (by omega)
    simp only[List.length_cons];omega
   ·cases h
  ·split at h
   ·have:=hU_ l [] t r h
    simp only[List.length_nil,List.length_cons]at this⊢;omega
   ·cases h
def gZ_(x:List UInt8):Bool:=decide (1≤x.length)&&decide (x.length≤24)
def dJ_(xs:List (List UInt8)):Bool:=decide (xs.length≤4)&&xs.all gZ_
def cz_(take:List UInt8→Option (List UInt8×List UInt8)):Nat→List UInt8→List (List UInt8)→Option (List (List UInt8)×List UInt8)
 | 0,left,out=>some (out,left)
 | f+1,left,out=>if left=[]then some (out,left)else match take left with
  | none=>none
  | some (t,r)=>cz_ take f r (out++[t])
def ff_(take:List UInt8→Option (List UInt8×List UInt8))(s:List UInt8):Option (List (List UInt8)) :=
 match cz_ take 5 s []with
 | none=>none
 | some (out,left)=>if left=[]∧dJ_ out=true∧bW_ out=s then some out else none
theorem o3_{take:List UInt8→Option (List UInt8×List UInt8)}(hA:∀x r,take (ch_ x++r)=some (x,r)):∀(xs:List (List UInt8)) (f:Nat) (out:List (List UInt8)),xs.length≤f→cz_ take f (bW_ xs) out=some (out++xs,[])
 | [],0,out,_=>by rw[cz_,p4_,append_nil]
 | [],f+1,out,_=>by rw[cz_,p4_,if_pos rfl,append_nil]
 | x::xs,0,out,h=>by simp at h
 | x::xs,f+1,out,h=>by
  rw[cz_,j4_,if_neg (by simp[tI_]),hA]
  simp only
  rw[o3_ hA xs f _ (by simpa using h),append_assoc];rfl
theorem gj_{take:List UInt8→Option (List UInt8×List UInt8)}(hA:∀x r,take (ch_ x++r)=some (x,r))(s:List UInt8)(xs:List (List UInt8)):ff_ take s=some xs↔dJ_ xs=true∧bW_ xs=s:=by
 constructor
 ·intro h
  unfold ff_ at h
  split at h
  ·cases h
  ·rename_i out left _
   split at h
   ·rename_i q
    simp only[Option.some.injEq]at h
    subst h
    exact q.2
   ·cases h
 ·rintro⟨h1,h2⟩
  have hl:xs.length≤4:=by simp only[dJ_,Bool.and_eq_true,decide_eq_true_eq]at h1;exact h1.1
  have:=o3_ hA xs 5 [] (by omega)
  rw[h2,nil_append]at this
  unfold ff_
  rw[this]
  simp only
  rw[if_pos ⟨trivial,h1,h2⟩]
theorem j9_(s:List UInt8):ff_ dz_ s=ff_ dh_ s:=by
 cases h:ff_ dh_ s with
 | some xs=>exact(gj_ h6_ s xs).2 ((gj_ n6_ s xs).1 h)
 | none =>
  cases h2:ff_ dz_ s with
  | none=>rfl
  | some xs =>
   have:=(gj_ n6_ s xs).2 ((gj_ h6_ s xs).1 h2)
   rw[h]at this;cases this
end Go.AW
