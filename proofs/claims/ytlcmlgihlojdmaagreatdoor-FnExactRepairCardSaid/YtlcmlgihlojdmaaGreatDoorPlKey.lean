/-
 The order of texts and of lists of texts, as both programs reckon it. Nothing of any program.
-/
import Derived.Test.YtlcmlgihlojdmaaGreatDoorPlNum
import GoSem.Op.String
namespace Go.AW
set_option linter.unusedSimpArgs false
open List
theorem lG_:∀a:List UInt8,Op.bytesLess a a=false
 | []=>rfl
 | x::a=>by simp[Op.bytesLess,lG_ a,UInt8.lt_irrefl]
theorem jx_:∀a b:List UInt8,Op.bytesLess a b=false→Op.bytesLess b a=false→a=b
 | [],[],_,_=>rfl
 | [],_::_,h,_=>by simp[Op.bytesLess]at h
 | _::_,[],_,h=>by simp[Op.bytesLess]at h
 | x::a,y::b,h1,h2=>by
  simp only[Op.bytesLess,Bool.or_eq_false_iff,Bool.and_eq_false_iff,decide_eq_false_iff_not,beq_eq_false_iff_ne]at h1 h2
  have e:x=y:=UInt8.le_antisymm (UInt8.not_lt.1 h2.1) (UInt8.not_lt.1 h1.1)
  subst e
  rw[jx_ a b (by simpa using h1.2) (by simpa using h2.2)]
theorem mC_:∀a b:List UInt8,Op.bytesLess a b=true→Op.bytesLess b a=false
 | [],[],h=>by simp[Op.bytesLess]at h
 | [],_::_,_=>rfl
 | _::_,[],h=>by simp[Op.bytesLess]at h
 | x::a,y::b,h=>by
  simp only[Op.bytesLess,Bool.or_eq_true,Bool.and_eq_true,decide_eq_true_eq,beq_iff_eq]at h
  simp only[Op.bytesLess,Bool.or_eq_false_iff,Bool.and_eq_false_iff,decide_eq_false_iff_not,beq_eq_false_iff_ne]
  rcases h with h|⟨h,k⟩
  ·exact⟨fun q=>UInt8.lt_irrefl x (UInt8.lt_trans h q),.inl fun e=>by subst e;exact UInt8.lt_irrefl _ h⟩
  ·subst h
   exact⟨UInt8.lt_irrefl _,.inr (mC_ a b k)⟩
def before(a b:List UInt8):Bool:=if dQ_ a&&dQ_ b then decide (cg_ a<cg_ b)else if dQ_ a != dQ_ b then dQ_ a else Op.bytesLess a b
def dl_(n j:Nat):UInt8:=UInt8.ofNat (n / 256 ^ j % 256)
def be8(n:Nat):List UInt8:=[dl_ n 7,dl_ n 6,dl_ n 5,dl_ n 4,dl_ n 3,dl_ n 2,dl_ n 1,dl_ n 0]
def cn_(acc:Nat)(l:List UInt8):Nat:=l.foldl (fun a b=>a * 256+b.toNat) acc
theorem kM_(n j:Nat):(dl_ n j).toNat=n / 256 ^ j % 256:=by
 unfold dl_;rw[UInt8.toNat_ofNat'];omega
theorem q7_(n:Nat)(h:n<18446744073709551616):cn_ 0 (be8 n)=n:=by
 simp only[cn_,be8,foldl_cons,foldl_nil,kM_,Nat.reducePow]
 omega
theorem qb_(acc:Nat):cn_ acc []=acc:=by unfold cn_;rw[foldl_nil]
theorem u5_(acc:Nat)(b:UInt8)(l:List UInt8):cn_ acc (b::l)=cn_ (acc * 256+b.toNat) l:=by unfold cn_;rw[foldl_cons]
theorem oi_:∀(l:List UInt8) (acc:Nat),cn_ acc l<(acc+1) * 256 ^ l.length
 | [],acc=>by rw[qb_];simp
 | b::l,acc=>by
  rw[u5_]
  have h:=oi_ l (acc * 256+b.toNat)
  have hb:=b.toNat_lt
  have h2:(acc * 256+b.toNat+1) * 256 ^ l.length≤((acc+1) * 256) * 256 ^ l.length:=Nat.mul_le_mul_right _ (by omega)
  rw[List.length_cons,Nat.pow_succ,Nat.mul_comm (256 ^ l.length),←Nat.mul_assoc]
  omega
def esc:List UInt8→List UInt8
 | []=>[]
 | b::l=>if b=0 then 0::255::esc l else b::esc l
def c9_(l:List UInt8):Nat:=(cg_ l+1000000000000000000).toNat
def cs_(l:List UInt8):List UInt8:=if dQ_ l then 1::be8 (c9_ l)else 2::(esc l++[0,0])
def cE_(xs:List (List UInt8)):List UInt8:=xs.flatMap cs_
theorem rb_:cE_ []=[]:=rfl
theorem kp_(x:List UInt8)(xs:List (List UInt8)):cE_ (x::xs)=cs_ x++cE_ xs:=rfl
theorem vh_(l:List UInt8):cs_ l≠[]:=by unfold cs_;split<;>simp
theorem iy_(l:List UInt8):1≤c9_ l∧c9_ l≤1999999999999999999:=by
 have:=ex_ l
 unfold c9_;omega
theorem iC_(l:List UInt8):((c9_ l:Nat):Int)=cg_ l+1000000000000000000:=by
 have:=ex_ l
 unfold c9_;omega
theorem jg_:∀l:List UInt8,(esc l).length≤2 * l.length
 | []=>by simp[esc]
 | b::l=>by
  have:=jg_ l
  unfold esc
  split<;>simp only[List.length_cons]<;>omega
theorem hc_(l:List UInt8):(cs_ l).length≤2 * l.length+9:=by
 have:=jg_ l
 unfold cs_
 split
 ·simp[be8]
 ·simp only[List.length_cons,List.length_append,List.length_nil];omega
def cq_:List UInt8→List UInt8→Option (List UInt8×List UInt8)
 | b::c::r,acc=>if b=0 then(if c=0 then some (acc,r)else if c=255 then cq_ r (acc++[0])else none)else cq_ (c::r) (acc++[b])
 | [_],_=>none
 | [],_=>none
theorem g1_(b c:UInt8)(r acc:List UInt8):cq_ (b::c::r) acc=if b=0 then(if c=0 then some (acc,r)else if c=255 then cq_ r (acc++[0])else none)else cq_ (c::r) (acc++[b]):=by
 rw[cq_]
theorem sf_(l acc:List UInt8)(h:l.length<2):cq_ l acc=none:=by
 match l,h with
 | [],_=>rw[cq_]
 | [_],_=>rw[cq_]
theorem mV_(l acc:List UInt8)(i:Nat)(h:i+1<l.length):cq_ (l.drop i) acc=if l[i]=0 then(if l[i+1]=0 then some (acc,l.drop (i+2))else if l[i+1]=255 then cq_ (l.drop (i+2)) (acc++[0])else none)else cq_ (l.drop (i+1)) (acc++[l[i]]):=by
 rw[drop_eq_getElem_cons (by omega:i<l.length),drop_eq_getElem_cons h,g1_]
theorem oC_(l acc:List UInt8)(i:Nat)(h:l.length≤i+1):cq_ (l.drop i) acc=none :=
 sf_ _ _ (by rw[length_drop];omega)
theorem ik_:∀(l acc t r:List UInt8),cq_ l acc=some (t,r)→t.length≤acc.length+l.length∧r.length≤l.length
 | [],acc,t,r,h=>by rw[cq_]at h;cases h
 | [_],acc,t,r,h=>by rw[cq_]at h;cases h
 | b::c::l,acc,t,r,h=>by
  rw[g1_]at h
  split at h
  ·split at h
   ·simp only[Option.some.injEq,Prod.mk.injEq]at h
    obtain⟨rfl,rfl⟩:=h
    simp only[List.length_cons];omega
   ·split at h
    ·have:=ik_ l _ t r h
     simp only[List.length_append,List.length_cons,List.length_nil]at this⊢;omega
    ·cases h
  ·have:=ik_ (c::l) _ t r h
   simp only[List.length_append,List.length_cons,List.length_nil]at this⊢;omega
theorem kA_:∀(x rest acc:List UInt8),cq_ (esc x++(0::0::rest)) acc=some (acc++x,rest)
 | [],rest,acc=>by
  rw[esc,nil_append,g1_,if_pos rfl,if_pos rfl,append_nil]
 | b::x,rest,acc=>by
  have ih:=kA_ x rest (acc++[b])
  by_cases h:b=0
  ·subst h
   rw[esc,if_pos rfl,cons_append,cons_append,g1_,if_pos rfl,if_neg (by decide),if_pos rfl,ih,append_assoc]
   rfl
  ·rw[esc,if_neg h,cons_append]
   cases hq:esc x++(0::0::rest)with
   | nil=>simp at hq
   | cons c r=>rw[g1_,if_neg h,←hq,ih,append_assoc];rfl
def gF_(n:Int):List UInt8:=if -999999999999999999≤n∧n≤999999999999999999 then b4_ n else []
def dV_:List UInt8→Option (List UInt8×List UInt8)
 | []=>none
 | b::l=>if b=1 then(if l.length<8 then none else if 2000000000000000000<cn_ 0 (l.take 8)then none else some (gF_ ((cn_ 0 (l.take 8):Int)-1000000000000000000),l.drop 8))
  else if b=2 then cq_ l []else none
def do_:List UInt8→Option (List UInt8×List UInt8)
 | []=>none
 | b::l=>if b=1∧8≤l.length then(if 1≤cn_ 0 (l.take 8)∧cn_ 0 (l.take 8)≤1999999999999999999 then some (b4_ ((cn_ 0 (l.take 8):Int)-1000000000000000000),l.drop 8)else none)
  else if b=2 then cq_ l []else none
theorem dU_(n:Nat):(be8 n).length=8:=rfl
theorem qn_(n:Nat)(r:List UInt8):(be8 n++r).take 8=be8 n:=take_left' (dU_ n)
theorem qH_(n:Nat)(r:List UInt8):(be8 n++r).drop 8=r:=drop_left' (dU_ n)
theorem kZ_(x r:List UInt8):dV_ (cs_ x++r)=some (x,r):=by
 unfold cs_
 by_cases h:dQ_ x=true
 ·have hk:=iy_ x
  have hq:=iC_ x
  rw[if_pos h,cons_append,dV_,if_pos rfl,if_neg (by simp[dU_]),qn_,qH_,q7_ _ (by omega),if_neg (by omega)]
  have e:((c9_ x:Nat):Int)-1000000000000000000=cg_ x:=by omega
  have hn:=ex_ x
  rw[e,gF_,if_pos hn,of_decide_eq_true (by exact h:decide (b4_ (cg_ x)=x)=true)]
 ·rw[if_neg h,cons_append,dV_,if_neg (by decide),if_pos rfl,append_assoc]
  exact kA_ x r []
theorem pd_(x r:List UInt8):do_ (cs_ x++r)=some (x,r):=by
 unfold cs_
 by_cases h:dQ_ x=true
 ·have hk:=iy_ x
  have hq:=iC_ x
  rw[if_pos h,cons_append,do_,if_pos ⟨rfl,by simp[dU_]⟩,qn_,qH_,q7_ _ (by omega),if_pos (by omega)]
  have e:((c9_ x:Nat):Int)-1000000000000000000=cg_ x:=by omega
  rw[e,of_decide_eq_true (by exact h:decide (b4_ (cg_ x)=x)=true)]
 ·rw[if_neg h,cons_append,do_,if_neg (by rintro⟨q,_⟩;exact absurd q (by decide)),if_pos rfl,append_assoc]
  exact kA_ x r []
theorem o4_(l t r:List UInt8)(h:dV_ l=some (t,r)):t.length≤l.length+20∧r.length<l.length:=by
 cases l with
 | nil=>cases h
 | cons b l =>
  rw[dV_]at h
  split at h
  ·split at h
   ·cases h
   ·split at h
    ·cases h
    ·simp only[Option.some.injEq,Prod.mk.injEq]at h
     obtain⟨rfl,rfl⟩:=h
     refine⟨?_,by simp only[length_drop,List.length_cons];omega⟩
     unfold gF_
     split
     ·rename_i q;have:=gS_ q.1 q.2;simp only[List.length_cons];omega
     ·simp
  ·split at h
   ·have:=ik_ l [] t r h
    simp only[List.length_nil,List.length_cons]at this⊢;omega
   ·cases h
theorem ve_(l t r:List UInt8)(h:do_ l=some (t,r)):t.length≤l.length+20∧r.length<l.length:=by
 cases l with
 | nil=>cases h
 | cons b l =>
  rw[do_]at h
  split at h
  ·split at h
   ·rename_i q
    simp only[Option.some.injEq,Prod.mk.injEq]at h
    obtain⟨rfl,rfl⟩:=h
    refine⟨?_,by simp only[length_drop,List.length_cons];omega⟩
    have:=gS_ (n:=(cn_ 0 (l.take 8):Int)-1000000000000000000) (by omega) (by omega)
    simp only[List.length_cons];omega
   ·cases h
  ·split at h
   ·have:=ik_ l [] t r h
    simp only[List.length_nil,List.length_cons]at this⊢;omega
   ·cases h
def sO_(x:List UInt8):Bool:=decide (1≤x.length)&&decide (x.length≤24)
def ef_(xs:List (List UInt8)):Bool:=decide (xs.length≤4)&&xs.all sO_
def cP_(take:List UInt8→Option (List UInt8×List UInt8)):Nat→List UInt8→List (List UInt8)→Option (List (List UInt8)×List UInt8)
 | 0,left,out=>some (out,left)
 | f+1,left,out=>if left=[]then some (out,left)else match take left with
  | none=>none
  | some (t,r)=>cP_ take f r (out++[t])
def fX_(take:List UInt8→Option (List UInt8×List UInt8))(s:List UInt8):Option (List (List UInt8)) :=
 match cP_ take 5 s []with
 | none=>none
 | some (out,left)=>if left=[]∧ef_ out=true∧cE_ out=s then some out else none
theorem rs_{take:List UInt8→Option (List UInt8×List UInt8)}(hA:∀x r,take (cs_ x++r)=some (x,r)):∀(xs:List (List UInt8)) (f:Nat) (out:List (List UInt8)),xs.length≤f→cP_ take f (cE_ xs) out=some (out++xs,[])
 | [],0,out,_=>by rw[cP_,rb_,append_nil]
 | [],f+1,out,_=>by rw[cP_,rb_,if_pos rfl,append_nil]
 | x::xs,0,out,h=>by simp at h
 | x::xs,f+1,out,h=>by
  rw[cP_,kp_,if_neg (by simp[vh_]),hA]
  simp only
  rw[rs_ hA xs f _ (by simpa using h),append_assoc];rfl
theorem hP_{take:List UInt8→Option (List UInt8×List UInt8)}(hA:∀x r,take (cs_ x++r)=some (x,r))(s:List UInt8)(xs:List (List UInt8)):fX_ take s=some xs↔ef_ xs=true∧cE_ xs=s:=by
 constructor
 ·intro h
  unfold fX_ at h
  split at h
  ·cases h
  ·rename_i out left _
   split at h
   ·rename_i q
    simp only[Option.some.injEq]at h
    subst h
    exact q.2
   ·cases h
 ·rintro⟨h1,h2⟩
  have hl:xs.length≤4:=by simp only[ef_,Bool.and_eq_true,decide_eq_true_eq]at h1;exact h1.1
  have:=rs_ hA xs 5 [] (by omega)
  rw[h2,nil_append]at this
  unfold fX_
  rw[this]
  simp only
  rw[if_pos ⟨trivial,h1,h2⟩]
theorem ks_(s:List UInt8):fX_ dV_ s=fX_ do_ s:=by
 cases h:fX_ do_ s with
 | some xs=>exact(hP_ kZ_ s xs).2 ((hP_ pd_ s xs).1 h)
 | none =>
  cases h2:fX_ dV_ s with
  | none=>rfl
  | some xs =>
   have:=(hP_ pd_ s xs).2 ((hP_ kZ_ s xs).1 h2)
   rw[h]at this;cases this
end Go.AW
