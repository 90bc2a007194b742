/-
 Plain numbers of texts: the number that a text begins with, the one text of a number, and the ways in which both programs reckon them. Nothing of any program.
-/
import Derived.Lib.ItoaNum
namespace Go.AW
open List
open Go.Lib (decDigits nDigits itoa)
def c7_(b:UInt8):Bool:=b==43||b==45
def bs_(b:UInt8):Bool:=decide (48≤b.toNat)&&decide (b.toNat≤57)
def dgt(b:UInt8):Nat:=b.toNat-48
def db_(acc:Nat)(l:List UInt8):Nat:=l.foldl (fun a b=>10 * a+dgt b) acc
theorem eM_(acc:Nat):db_ acc []=acc:=by unfold db_;rw[foldl_nil]
theorem eR_(acc:Nat)(b:UInt8)(l:List UInt8):db_ acc (b::l)=db_ (10 * acc+dgt b) l:=by unfold db_;rw[foldl_cons]
theorem ju_(b:UInt8)(l:List UInt8):db_ 0 (b::l)=db_ (dgt b) l:=by rw[eR_,Nat.mul_zero,Nat.zero_add]
theorem qv_(acc:Nat)(a b:List UInt8):db_ acc (a++b)=db_ (db_ acc a) b:=by
 induction a generalizing acc with
 | nil=>rw[nil_append,eM_]
 | cons x a ih=>rw[cons_append,eR_,eR_,ih]
theorem i6_(acc:Nat)(l:List UInt8):db_ acc l=acc * 10 ^ l.length+db_ 0 l:=by
 induction l generalizing acc with
 | nil=>rw[List.length_nil,Nat.pow_zero,Nat.mul_one,eM_,eM_];rfl
 | cons b l ih =>
  rw[eR_,ju_,ih (10 * acc+dgt b),ih (dgt b),List.length_cons,Nat.pow_succ,Nat.add_mul,Nat.mul_comm 10 acc,Nat.mul_assoc,Nat.mul_comm 10,Nat.add_assoc]
theorem w3_(acc:Nat)(l:List UInt8):acc≤db_ acc l:=by
 rw[i6_]
 have:1≤10 ^ l.length:=Nat.one_le_pow _ _ (by decide)
 have:=Nat.mul_le_mul_left acc this
 omega
theorem zZ_{b:UInt8}(h:bs_ b=true):dgt b≤9:=by
 simp only[bs_,Bool.and_eq_true,decide_eq_true_eq]at h
 unfold dgt;omega
theorem rd_:∀(l:List UInt8),(∀b∈l,dgt b≤9)→db_ 0 l<10 ^ l.length
 | [],_=>by rw[List.length_nil,Nat.pow_zero,eM_];exact Nat.zero_lt_one
 | b::l,h=>by
  have h2:=rd_ l (fun x hx=>h x (by simp[hx]))
  have h3:=h b (by simp)
  rw[ju_,i6_,List.length_cons,Nat.pow_succ]
  generalize 10 ^ l.length=p at *
  have:dgt b * p≤9 * p:=Nat.mul_le_mul_right _ h3
  omega
def fk_(n:Nat):List UInt8→Nat
 | []=>n
 | c::cs=>if(999999999999999999-dgt c) / 10<n then 999999999999999999 else fk_ (10 * n+dgt c) cs
theorem nK_:∀(l:List UInt8) (n:Nat),n≤999999999999999999→(∀b∈l,dgt b≤9)→fk_ n l=min (db_ n l) 999999999999999999
 | [],n,h,_=>by rw[eM_];show n=_;omega
 | c::cs,n,h,hd=>by
  have h3:=hd c (by simp)
  rw[eR_]
  show(if(999999999999999999-dgt c) / 10<n then 999999999999999999 else fk_ (10 * n+dgt c) cs)=_
  split
  ·have:=w3_ (10 * n+dgt c) cs
   omega
  ·exact nK_ cs _ (by omega) (fun b hb=>hd b (by simp[hb]))
def dq_(n:Nat):List UInt8→Nat
 | []=>n
 | b::bs=>if bs_ b then dq_ (min (10 * n+dgt b) 1000000000000) bs else n
theorem l1_:∀(l:List UInt8) (n:Nat),dq_ (min n 1000000000000) l=min (db_ n (l.takeWhile bs_)) 1000000000000
 | [],n=>by rw[takeWhile_nil,eM_];rfl
 | b::l,n=>by
  simp only[dq_,takeWhile_cons]
  split
  ·have e:min (10 * min n 1000000000000+dgt b) 1000000000000=min (10 * n+dgt b) 1000000000000:=by omega
   rw[e,l1_ l,eR_]
  ·rw[eM_]
def d4_(n unit:Nat):List UInt8→Nat
 | []=>n
 | b::bs=>if bs_ b then d4_ (n+dgt b * unit) (unit / 10) bs else n
def iF_:Nat→Nat
 | 0=>0
 | j+1=>10 ^ j
theorem rU_(j:Nat):iF_ (j+1) / 10=iF_ j:=by
 cases j with
 | zero=>rfl
 | succ j=>simp only[iF_,Nat.pow_succ];omega
theorem mZ_(acc n:Nat):db_ acc (List.replicate n 48)=acc * 10 ^ n:=by
 induction n generalizing acc with
 | zero=>rw[replicate_zero,eM_,Nat.pow_zero,Nat.mul_one]
 | succ n ih =>
  have:dgt 48=0:=rfl
  rw[replicate_succ,eR_,ih,this,Nat.add_zero,Nat.pow_succ,Nat.mul_comm 10 acc,Nat.mul_assoc,Nat.mul_comm 10]
theorem jo_:∀(l:List UInt8) (n j:Nat),j≤6→d4_ n (iF_ j) l=n+db_ 0 ((l.takeWhile bs_++List.replicate 6 48).take j)
 | [],n,j,hj=>by
  have:(([]:List UInt8).takeWhile bs_++List.replicate 6 48).take j=List.replicate j 48:=by
   simp only[takeWhile_nil,nil_append,take_replicate];congr 1;omega
  rw[this,mZ_];simp[d4_]
 | b::l,n,j,hj=>by
  simp only[d4_,takeWhile_cons]
  split
  ·cases j with
   | zero =>
    have e:iF_ 0=0:=rfl
    rw[e,Nat.mul_zero,Nat.add_zero,Nat.zero_div]
    have:=jo_ l n 0 (by omega)
    rw[e]at this
    rw[this];simp
   | succ j =>
    rw[rU_,jo_ l _ j (by omega),cons_append,take_succ_cons]
    rw[ju_,i6_ (dgt b),length_take]
    have:min j (l.takeWhile bs_++List.replicate 6 (48:UInt8)).length=j:=by
     simp only[List.length_append,length_replicate];omega
    rw[this]
    simp only[iF_]
    omega
  ·have:(([]:List UInt8)++List.replicate 6 48).take j=List.replicate j 48:=by
    simp only[nil_append,take_replicate];congr 1;omega
   rw[this,mZ_];simp
def bf_(l:List UInt8):List UInt8:=l.dropWhile c7_
def dH_(l:List UInt8):Bool:=(l.takeWhile c7_).count 45 % 2==1
def nF_(r:List UInt8):List UInt8:=r.takeWhile bs_
def cx_(r:List UInt8):List UInt8 :=
 match r.dropWhile bs_ with
 | 46::t=>t.takeWhile bs_
 | _=>[]
def six(f:List UInt8):List UInt8:=(f++List.replicate 6 48).take 6
def fq_(l:List UInt8):Nat:=min (db_ 0 (nF_ (bf_ l)) * 1000000+db_ 0 (six (cx_ (bf_ l)))) 999999999999999999
def b3_(l:List UInt8):Int:=if dH_ l then -(fq_ l:Int)else fq_ l
theorem kp_(l:List UInt8):fq_ l≤999999999999999999:=Nat.min_le_right _ _
theorem er_(l:List UInt8) : -999999999999999999≤b3_ l∧b3_ l≤999999999999999999:=by
 have:=kp_ l
 unfold b3_
 split<;>omega
theorem jI_(l:List UInt8):∀b∈l.takeWhile bs_,dgt b≤9:=fun b hb=>zZ_ (by
 induction l with
 | nil=>simp at hb
 | cons x l ih =>
  rw[takeWhile_cons]at hb
  split at hb
  ·rcases mem_cons.1 hb with e|e
   ·subst e;assumption
   ·exact ih e
  ·simp at hb)
theorem mD_(r:List UInt8):∀b∈cx_ r,dgt b≤9:=by
 unfold cx_
 split
 ·exact jI_ _
 ·simp
theorem rt_{f:List UInt8}(h:∀b∈f,dgt b≤9):∀b∈six f,dgt b≤9:=by
 intro b hb
 have:=mem_of_mem_take hb
 rcases mem_append.1 this with q|q
 ·exact h b q
 ·rw[eq_of_mem_replicate q];decide
theorem i9_(f:List UInt8):(six f).length=6:=by simp[six]
theorem u5_(l:List UInt8):fk_ 0 (nF_ (bf_ l)++six (cx_ (bf_ l)))=fq_ l:=by
 rw[nK_ _ _ (by omega),qv_,i6_ (db_ 0 _),i9_]
 ·rfl
 ·intro b hb
  rcases mem_append.1 hb with q|q
  ·exact jI_ _ b q
  ·exact rt_ (mD_ _) b q
theorem uK_(l:List UInt8):min (min (dq_ 0 (bf_ l) * 1000000) 1000000000000000000+db_ 0 (six (cx_ (bf_ l)))) 999999999999999999=fq_ l:=by
 have h1:=l1_ (bf_ l) 0
 rw[Nat.zero_min]at h1
 have h2:=rd_ _ (rt_ (mD_ (bf_ l)))
 rw[i9_]at h2
 unfold fq_ nF_
 rw[h1]
 omega
def cE_(u:Nat):List UInt8:=if u=0 then []else decDigits u
def e5_(l:List UInt8):List UInt8:=(l.reverse.dropWhile fun b=>b==48).reverse
def jn_(r:Nat):List UInt8:=if r=0 then []else 46::e5_ ((decDigits (1000000+r)).drop 1)
def cV_(u:Nat):List UInt8:=if u=0 then [48]else cE_ (u / 1000000)++jn_ (u % 1000000)
def a3_(n:Int):List UInt8:=if n<0 then 45::cV_ n.natAbs else cV_ n.natAbs
theorem kt_(u:Nat):decDigits u≠[]:=by
 rw[decDigits];split<;>simp
theorem i3_:∀(k u:Nat),u<10 ^ (k+1)→nDigits u≤k+1
 | 0,u,h=>by rw[Go.Lib.nDigits_small (by simpa using h)];omega
 | k+1,u,h=>by
  by_cases h1:u<10
  ·rw[Go.Lib.nDigits_small h1];omega
  ·rw[Go.Lib.nDigits_big h1]
   have:=i3_ k (u / 10) (by rw[Nat.pow_succ]at h;omega)
   omega
theorem eS_(l:List UInt8):(e5_ l).length≤l.length:=by
 unfold e5_
 rw[length_reverse]
 have:=(dropWhile_sublist (l:=l.reverse) (fun b=>b==48)).length_le
 rw[length_reverse]at this
 exact this
theorem pl_{r:Nat}(h:r<1000000):(jn_ r).length≤7:=by
 unfold jn_
 split
 ·simp
 ·have h1:=eS_ ((decDigits (1000000+r)).drop 1)
  rw[length_drop,Go.Lib.decDigits_length,Go.Lib.nDigits_unique 6 (1000000+r) (by omega) (by omega)]at h1
  rw[List.length_cons];omega
theorem iD_{u:Nat}(h:u≤999999999999999999):(cV_ u).length≤19:=by
 unfold cV_
 split
 ·simp
 ·rw[List.length_append]
  have h1:=pl_ (r:=u % 1000000) (by omega)
  have h2:(cE_ (u / 1000000)).length≤12:=by
   unfold cE_
   split
   ·simp
   ·rw[Go.Lib.decDigits_length];exact i3_ 11 _ (by omega)
  omega
theorem e2_{n:Int}(h1 : -999999999999999999≤n)(h2:n≤999999999999999999):(a3_ n).length≤20:=by
 have:=iD_ (u:=n.natAbs) (by omega)
 unfold a3_
 split
 ·rw[List.length_cons];omega
 ·omega
theorem r3_(u:Nat):cV_ u≠[]:=by
 unfold cV_
 split
 ·simp
 ·intro h
  have h1:=(append_eq_nil_iff.1 h).1
  have h2:=(append_eq_nil_iff.1 h).2
  have e1:u / 1000000=0:=by
   unfold cE_ at h1
   split at h1
   ·assumption
   ·exact absurd h1 (kt_ _)
  have e2:u % 1000000=0:=by
   unfold jn_ at h2
   split at h2
   ·assumption
   ·simp at h2
  omega
theorem mY_(n:Int):a3_ n≠[]:=by
 unfold a3_
 split
 ·simp
 ·exact r3_ _
def dI_(l:List UInt8):Bool:=decide (a3_ (b3_ l)=l)
theorem su_(l:List UInt8):(decide (l≠[])&&decide (l.length≤21)&&decide (a3_ (b3_ l)=l))=dI_ l:=by
 unfold dI_
 by_cases h:a3_ (b3_ l)=l
 ·have h1:=mY_ (b3_ l)
  have h2:=e2_ (er_ l).1 (er_ l).2
  rw[h]at h1 h2
  have h3:l.length≤21:=by omega
  simp[h,h1,h3]
 ·simp[h]
theorem sM_{r:Nat}(h0:r≠0)(h:r<1000000):∃b∈(decDigits (1000000+r)).drop 1,b≠48:=by
 have hn:nDigits (1000000+r)=7:=Go.Lib.nDigits_unique 6 (1000000+r) (by omega) (by omega)
 have hd:(decDigits (1000000+r)).drop 1=[Go.Lib.dg (1000000+r) 5,Go.Lib.dg (1000000+r) 4,Go.Lib.dg (1000000+r) 3,Go.Lib.dg (1000000+r) 2,Go.Lib.dg (1000000+r) 1,Go.Lib.dg (1000000+r) 0]:=by
  rw[Go.Lib.decDigits_eq,hn];rfl
 have key:∀j,Go.Lib.dg (1000000+r) j=48→(1000000+r) / 10 ^ j % 10=0:=by
  intro j hj
  have:=congrArg UInt8.toNat hj
  simp only[Go.Lib.dg]at this
  rw[UInt8.toNat_ofNat']at this
  have h2:(48:UInt8).toNat=48:=rfl
  rw[h2]at this
  omega
 rw[hd]
 apply Classical.byContradiction
 intro hc
 have hall:∀b∈[Go.Lib.dg (1000000+r) 5,Go.Lib.dg (1000000+r) 4,Go.Lib.dg (1000000+r) 3,Go.Lib.dg (1000000+r) 2,Go.Lib.dg (1000000+r) 1,Go.Lib.dg (1000000+r) 0],b=48:=by
  intro b hb
  apply Classical.byContradiction
  intro hn
  exact hc ⟨b,hb,hn⟩
 have k5:=key 5 (hall _ (by simp))
 have k4:=key 4 (hall _ (by simp))
 have k3:=key 3 (hall _ (by simp))
 have k2:=key 2 (hall _ (by simp))
 have k1:=key 1 (hall _ (by simp))
 have k0:=key 0 (hall _ (by simp))
 simp only[Nat.reducePow]at k5 k4 k3 k2 k1 k0
 omega
end Go.AW
