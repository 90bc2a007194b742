/-
 The order of texts and of lists of texts, as both programs reckon it. Nothing of any program.
-/
import Derived.Test.YtlcmlgihlojdmaaGreatDoorPlNum
import GoSem.Op.String
namespace Go.AW
set_option linter.unusedSimpArgs false
open List
def before(a b:List UInt8):Bool:=if d5_ a&&d5_ b then decide (cj_ a<cj_ b)else if d5_ a != d5_ b then d5_ a else Op.bytesLess a b
def dn_(n j:Nat):UInt8:=UInt8.ofNat (n / 256 ^ j % 256)
def be8(n:Nat):List UInt8:=[dn_ n 7,dn_ n 6,dn_ n 5,dn_ n 4,dn_ n 3,dn_ n 2,dn_ n 1,dn_ n 0]
def cm_(acc:Nat)(l:List UInt8):Nat:=l.foldl (fun a b=>a * 256+b.toNat) acc
theorem lf_(n j:Nat):(dn_ n j).toNat=n / 256 ^ j % 256:=by
 unfold dn_;rw[UInt8.toNat_ofNat'];omega
theorem qB_(n:Nat)(h:n<18446744073709551616):cm_ 0 (be8 n)=n:=by
 simp only[cm_,be8,foldl_cons,foldl_nil,lf_,Nat.reducePow]
 omega
theorem q0_(acc:Nat):cm_ acc []=acc:=by unfold cm_;rw[foldl_nil]
theorem uh_(acc:Nat)(b:UInt8)(l:List UInt8):cm_ acc (b::l)=cm_ (acc * 256+b.toNat) l:=by unfold cm_;rw[foldl_cons]
theorem nV_:∀(l:List UInt8) (acc:Nat),cm_ acc l<(acc+1) * 256 ^ l.length
 | [],acc=>by rw[q0_];simp
 | b::l,acc=>by
  rw[uh_]
  have h:=nV_ l (acc * 256+b.toNat)
  have hb:=b.toNat_lt
  have h2:(acc * 256+b.toNat+1) * 256 ^ l.length≤((acc+1) * 256) * 256 ^ l.length:=Nat.mul_le_mul_right _ (by omega)
  rw[List.length_cons,Nat.pow_succ,Nat.mul_comm (256 ^ l.length),←Nat.mul_assoc]
  omega
def esc:List UInt8→List UInt8
 | []=>[]
 | b::l=>if b=0 then 0::255::esc l else b::esc l
def df_(l:List UInt8):Nat:=(cj_ l+1000000000000000000).toNat
def cs_(l:List UInt8):List UInt8:=if d5_ l then 1::be8 (df_ l)else 2::(esc l++[0,0])
def cD_(xs:List (List UInt8)):List UInt8:=xs.flatMap cs_
theorem qw_:cD_ []=[]:=rfl
theorem lk_(x:List UInt8)(xs:List (List UInt8)):cD_ (x::xs)=cs_ x++cD_ xs:=rfl
theorem tK_(l:List UInt8):cs_ l≠[]:=by unfold cs_;split<;>simp
theorem iG_(l:List UInt8):1≤df_ l∧df_ l≤1999999999999999999:=by
 have:=eG_ l
 unfold df_;omega
theorem iC_(l:List UInt8):((df_ l:Nat):Int)=cj_ l+1000000000000000000:=by
 have:=eG_ l
 unfold df_;omega
theorem jL_:∀l:List UInt8,(esc l).length≤2 * l.length
 | []=>by simp[esc]
 | b::l=>by
  have:=jL_ l
  unfold esc
  split<;>simp only[List.length_cons]<;>omega
theorem hk_(l:List UInt8):(cs_ l).length≤2 * l.length+9:=by
 have:=jL_ l
 unfold cs_
 split
 ·simp[be8]
 ·simp only[List.length_cons,List.length_append,List.length_nil];omega
def cq_:List UInt8→List UInt8→Option (List UInt8×List UInt8)
 | b::c::r,acc=>if b=0 then(if c=0 then some (acc,r)else if c=255 then cq_ r (acc++[0])else none)else cq_ (c::r) (acc++[b])
 | [_],_=>none
 | [],_=>none
theorem g4_(b c:UInt8)(r acc:List UInt8):cq_ (b::c::r) acc=if b=0 then(if c=0 then some (acc,r)else if c=255 then cq_ r (acc++[0])else none)else cq_ (c::r) (acc++[b]):=by
 rw[cq_]
theorem rj_(l acc:List UInt8)(h:l.length<2):cq_ l acc=none:=by
 match l,h with
 | [],_=>rw[cq_]
 | [_],_=>rw[cq_]
theorem mU_(l acc:List UInt8)(i:Nat)(h:i+1<l.length):cq_ (l.drop i) acc=if l[i]=0 then(if l[i+1]=0 then some (acc,l.drop (i+2))else if l[i+1]=255 then cq_ (l.drop (i+2)) (acc++[0])else none)else cq_ (l.drop (i+1)) (acc++[l[i]]):=by
 rw[drop_eq_getElem_cons (by omega:i<l.length),drop_eq_getElem_cons h,g4_]
theorem pi_(l acc:List UInt8)(i:Nat)(h:l.length≤i+1):cq_ (l.drop i) acc=none :=
 rj_ _ _ (by rw[length_drop];omega)
theorem iD_:∀(l acc t r:List UInt8),cq_ l acc=some (t,r)→t.length≤acc.length+l.length∧r.length≤l.length
 | [],acc,t,r,h=>by rw[cq_]at h;cases h
 | [_],acc,t,r,h=>by rw[cq_]at h;cases h
 | b::c::l,acc,t,r,h=>by
  rw[g4_]at h
  split at h
  ·split at h
   ·simp only[Option.some.injEq,Prod.mk.injEq]at h
    obtain⟨rfl,rfl⟩:=h
    simp only[List.length_cons];omega
   ·split at h
    ·have:=iD_ l _ t r h
     simp only[List.length_append,List.length_cons,List.length_nil]at this⊢;omega
    ·cases h
  ·have:=iD_ (c::l) _ t r h
   simp only[List.length_append,List.length_cons,List.length_nil]at this⊢;omega
theorem kx_:∀(x rest acc:List UInt8),cq_ (esc x++(0::0::rest)) acc=some (acc++x,rest)
 | [],rest,acc=>by
  rw[esc,nil_append,g4_,if_pos rfl,if_pos rfl,append_nil]
 | b::x,rest,acc=>by
  have ih:=kx_ x rest (acc++[b])
  by_cases h:b=0
  ·subst h
   rw[esc,if_pos rfl,cons_append,cons_append,g4_,if_pos rfl,if_neg (by decide),if_pos rfl,ih,append_assoc]
   rfl
  ·rw[esc,if_neg h,cons_append]
   cases hq:esc x++(0::0::rest)with
   | nil=>simp at hq
   | cons c r=>rw[g4_,if_neg h,←hq,ih,append_assoc];rfl
def gU_(n:Int):List UInt8:=if -999999999999999999≤n∧n≤999999999999999999 then b1_ n else []
def d0_:List UInt8→Option (List UInt8×List UInt8)
 | []=>none
 | b::l=>if b=1 then(if l.length<8 then none else if 2000000000000000000<cm_ 0 (l.take 8)then none else some (gU_ ((cm_ 0 (l.take 8):Int)-1000000000000000000),l.drop 8))
  else if b=2 then cq_ l []else none
def dr_:List UInt8→Option (List UInt8×List UInt8)
 | []=>none
 | b::l=>if b=1∧8≤l.length then(if 1≤cm_ 0 (l.take 8)∧cm_ 0 (l.take 8)≤1999999999999999999 then some (b1_ ((cm_ 0 (l.take 8):Int)-1000000000000000000),l.drop 8)else none)
  else if b=2 then cq_ l []else none
theorem dZ_(n:Nat):(be8 n).length=8:=rfl
theorem qQ_(n:Nat)(r:List UInt8):(be8 n++r).take 8=be8 n:=take_left' (dZ_ n)
theorem qx_(n:Nat)(r:List UInt8):(be8 n++r).drop 8=r:=drop_left' (dZ_ n)
theorem kS_(x r:List UInt8):d0_ (cs_ x++r)=some (x,r):=by
 unfold cs_
 by_cases h:d5_ x=true
 ·have hk:=iG_ x
  have hq:=iC_ x
  rw[if_pos h,cons_append,d0_,if_pos rfl,if_neg (by simp[dZ_]),qQ_,qx_,qB_ _ (by omega),if_neg (by omega)]
  have e:((df_ x:Nat):Int)-1000000000000000000=cj_ x:=by omega
  have hn:=eG_ x
  rw[e,gU_,if_pos hn,of_decide_eq_true (by exact h:decide (b1_ (cj_ x)=x)=true)]
 ·rw[if_neg h,cons_append,d0_,if_neg (by decide),if_pos rfl,append_assoc]
  exact kx_ x r []
theorem o6_(x r:List UInt8):dr_ (cs_ x++r)=some (x,r):=by
 unfold cs_
 by_cases h:d5_ x=true
 ·have hk:=iG_ x
  have hq:=iC_ x
  rw[if_pos h,cons_append,dr_,if_pos ⟨rfl,by simp[dZ_]⟩,qQ_,qx_,qB_ _ (by omega),if_pos (by omega)]
  have e:((df_ x:Nat):Int)-1000000000000000000=cj_ x:=by omega
  rw[e,of_decide_eq_true (by exact h:decide (b1_ (cj_ x)=x)=true)]
 ·rw[if_neg h,cons_append,dr_,if_neg (by rintro⟨q,_⟩;exact absurd q (by decide)),if_pos rfl,append_assoc]
  exact kx_ x r []
theorem oB_(l t r:List UInt8)(h:d0_ l=some (t,r)):t.length≤l.length+20∧r.length<l.length:=by
 cases l with
 | nil=>cases h
 | cons b l =>
  rw[d0_]at h
  split at h
  ·split at h
   ·cases h
   ·split at h
    ·cases h
    ·simp only[Option.some.injEq,Prod.mk.injEq]at h
     obtain⟨rfl,rfl⟩:=h
     refine⟨?_,by simp only[length_drop,List.length_cons];omega⟩
     unfold gU_
     split
     ·rename_i q;have:=gV_ q.1 q.2;simp only[List.length_cons];omega
     ·simp
  ·split at h
   ·have:=iD_ l [] t r h
    simp only[List.length_nil,List.length_cons]at this⊢;omega
   ·cases h
theorem tS_(l t r:List UInt8)(h:dr_ l=some (t,r)):t.length≤l.length+20∧r.length<l.length:=by
 cases l with
 | nil=>cases h
 | cons b l =>
  rw[dr_]at h
  split at h
  ·split at h
   ·rename_i q
    simp only[Option.some.injEq,Prod.mk.injEq]at h
    obtain⟨rfl,rfl⟩:=h
    refine⟨?_,by simp only[length_drop,List.length_cons];omega⟩
    have:=gV_ (n:=(cm_ 0 (l.take 8):Int)-1000000000000000000) (by omega) (by omega)
    simp only[List.length_cons];omega
   ·cases h
  ·split at h
   ·have:=iD_ l [] t r h
    simp only[List.length_nil,List.length_cons]at this⊢;omega
   ·cases h
def sI_(x:List UInt8):Bool:=decide (1≤x.length)&&decide (x.length≤24)
def ei_(xs:List (List UInt8)):Bool:=decide (xs.length≤4)&&xs.all sI_
def cT_(take:List UInt8→Option (List UInt8×List UInt8)):Nat→List UInt8→List (List UInt8)→Option (List (List UInt8)×List UInt8)
 | 0,left,out=>some (out,left)
 | f+1,left,out=>if left=[]then some (out,left)else match take left with
  | none=>none
  | some (t,r)=>cT_ take f r (out++[t])
def fY_(take:List UInt8→Option (List UInt8×List UInt8))(s:List UInt8):Option (List (List UInt8)) :=
 match cT_ take 5 s []with
 | none=>none
 | some (out,left)=>if left=[]∧ei_ out=true∧cD_ out=s then some out else none
theorem p5_{take:List UInt8→Option (List UInt8×List UInt8)}(hA:∀x r,take (cs_ x++r)=some (x,r)):∀(xs:List (List UInt8)) (f:Nat) (out:List (List UInt8)),xs.length≤f→cT_ take f (cD_ xs) out=some (out++xs,[])
 | [],0,out,_=>by rw[cT_,qw_,append_nil]
 | [],f+1,out,_=>by rw[cT_,qw_,if_pos rfl,append_nil]
 | x::xs,0,out,h=>by simp at h
 | x::xs,f+1,out,h=>by
  rw[cT_,lk_,if_neg (by simp[tK_]),hA]
  simp only
  rw[p5_ hA xs f _ (by simpa using h),append_assoc];rfl
theorem h7_{take:List UInt8→Option (List UInt8×List UInt8)}(hA:∀x r,take (cs_ x++r)=some (x,r))(s:List UInt8)(xs:List (List UInt8)):fY_ take s=some xs↔ei_ xs=true∧cD_ xs=s:=by
 constructor
 ·intro h
  unfold fY_ at h
  split at h
  ·cases h
  ·rename_i out left _
   split at h
   ·rename_i q
    simp only[Option.some.injEq]at h
    subst h
    exact q.2
   ·cases h
 ·rintro⟨h1,h2⟩
  have hl:xs.length≤4:=by simp only[ei_,Bool.and_eq_true,decide_eq_true_eq]at h1;exact h1.1
  have:=p5_ hA xs 5 [] (by omega)
  rw[h2,nil_append]at this
  unfold fY_
  rw[this]
  simp only
  rw[if_pos ⟨trivial,h1,h2⟩]
theorem lm_(s:List UInt8):fY_ d0_ s=fY_ dr_ s:=by
 cases h:fY_ dr_ s with
 | some xs=>exact(h7_ kS_ s xs).2 ((h7_ o6_ s xs).1 h)
 | none =>
  cases h2:fY_ d0_ s with
  | none=>rfl
  | some xs =>
   have:=(h7_ o6_ s xs).2 ((h7_ kS_ s xs).1 h2)
   rw[h]at this;cases this
end Go.AW
