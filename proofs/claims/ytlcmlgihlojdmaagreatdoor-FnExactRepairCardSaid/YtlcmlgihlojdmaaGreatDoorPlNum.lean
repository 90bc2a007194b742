/-
 Plain numbers of texts: the number that a text begins with, the one text of a number, and the ways in which both programs reckon them. Nothing of any program.
-/
import Derived.Lib.ItoaNum
namespace Go.AW
open List
open Go.Lib (decDigits nDigits itoa)
def dd_(b:UInt8):Bool:=b==43||b==45
def bA_(b:UInt8):Bool:=decide (48≤b.toNat)&&decide (b.toNat≤57)
def dgt(b:UInt8):Nat:=b.toNat-48
def di_(acc:Nat)(l:List UInt8):Nat:=l.foldl (fun a b=>10 * a+dgt b) acc
theorem e5_(acc:Nat):di_ acc []=acc:=by unfold di_;rw[foldl_nil]
theorem e0_(acc:Nat)(b:UInt8)(l:List UInt8):di_ acc (b::l)=di_ (10 * acc+dgt b) l:=by unfold di_;rw[foldl_cons]
theorem jq_(b:UInt8)(l:List UInt8):di_ 0 (b::l)=di_ (dgt b) l:=by rw[e0_,Nat.mul_zero,Nat.zero_add]
theorem sb_(acc:Nat)(a b:List UInt8):di_ acc (a++b)=di_ (di_ acc a) b:=by
 induction a generalizing acc with
 | nil=>rw[nil_append,e5_]
 | cons x a ih=>rw[cons_append,e0_,e0_,ih]
theorem jv_(acc:Nat)(l:List UInt8):di_ acc l=acc * 10 ^ l.length+di_ 0 l:=by
 induction l generalizing acc with
 | nil=>rw[List.length_nil,Nat.pow_zero,Nat.mul_one,e5_,e5_];rfl
 | cons b l ih =>
  rw[e0_,jq_,ih (10 * acc+dgt b),ih (dgt b),List.length_cons,Nat.pow_succ,Nat.add_mul,Nat.mul_comm 10 acc,Nat.mul_assoc,Nat.mul_comm 10,Nat.add_assoc]
theorem yN_(acc:Nat)(l:List UInt8):acc≤di_ acc l:=by
 rw[jv_]
 have:1≤10 ^ l.length:=Nat.one_le_pow _ _ (by decide)
 have:=Nat.mul_le_mul_left acc this
 omega
theorem CC_{b:UInt8}(h:bA_ b=true):dgt b≤9:=by
 simp only[bA_,Bool.and_eq_true,decide_eq_true_eq]at h
 unfold dgt;omega
theorem sq_:∀(l:List UInt8),(∀b∈l,dgt b≤9)→di_ 0 l<10 ^ l.length
 | [],_=>by rw[List.length_nil,Nat.pow_zero,e5_];exact Nat.zero_lt_one
 | b::l,h=>by
  have h2:=sq_ l (fun x hx=>h x (by simp[hx]))
  have h3:=h b (by simp)
  rw[jq_,jv_,List.length_cons,Nat.pow_succ]
  generalize 10 ^ l.length=p at *
  have:dgt b * p≤9 * p:=Nat.mul_le_mul_right _ h3
  omega
def fD_(n:Nat):List UInt8→Nat
 | []=>n
 | c::cs=>if(999999999999999999-dgt c) / 10<n then 999999999999999999 else fD_ (10 * n+dgt c) cs
theorem oB_:∀(l:List UInt8) (n:Nat),n≤999999999999999999→(∀b∈l,dgt b≤9)→fD_ n l=min (di_ n l) 999999999999999999
 | [],n,h,_=>by rw[e5_];show n=_;omega
 | c::cs,n,h,hd=>by
  have h3:=hd c (by simp)
  rw[e0_]
  show(if(999999999999999999-dgt c) / 10<n then 999999999999999999 else fD_ (10 * n+dgt c) cs)=_
  split
  ·have:=yN_ (10 * n+dgt c) cs
   omega
  ·exact oB_ cs _ (by omega) (fun b hb=>hd b (by simp[hb]))
def dB_(n:Nat):List UInt8→Nat
 | []=>n
 | b::bs=>if bA_ b then dB_ (min (10 * n+dgt b) 1000000000000) bs else n
theorem m4_:∀(l:List UInt8) (n:Nat),dB_ (min n 1000000000000) l=min (di_ n (l.takeWhile bA_)) 1000000000000
 | [],n=>by rw[takeWhile_nil,e5_];rfl
 | b::l,n=>by
  simp only[dB_,takeWhile_cons]
  split
  ·have e:min (10 * min n 1000000000000+dgt b) 1000000000000=min (10 * n+dgt b) 1000000000000:=by omega
   rw[e,m4_ l,e0_]
  ·rw[e5_]
def er_(n unit:Nat):List UInt8→Nat
 | []=>n
 | b::bs=>if bA_ b then er_ (n+dgt b * unit) (unit / 10) bs else n
def i3_:Nat→Nat
 | 0=>0
 | j+1=>10 ^ j
theorem tB_(j:Nat):i3_ (j+1) / 10=i3_ j:=by
 cases j with
 | zero=>rfl
 | succ j=>simp only[i3_,Nat.pow_succ];omega
theorem m7_(acc n:Nat):di_ acc (List.replicate n 48)=acc * 10 ^ n:=by
 induction n generalizing acc with
 | zero=>rw[replicate_zero,e5_,Nat.pow_zero,Nat.mul_one]
 | succ n ih =>
  have:dgt 48=0:=rfl
  rw[replicate_succ,e0_,ih,this,Nat.add_zero,Nat.pow_succ,Nat.mul_comm 10 acc,Nat.mul_assoc,Nat.mul_comm 10]
theorem jA_:∀(l:List UInt8) (n j:Nat),j≤6→er_ n (i3_ j) l=n+di_ 0 ((l.takeWhile bA_++List.replicate 6 48).take j)
 | [],n,j,hj=>by
  have:(([]:List UInt8).takeWhile bA_++List.replicate 6 48).take j=List.replicate j 48:=by
   simp only[takeWhile_nil,nil_append,take_replicate];congr 1;omega
  rw[this,m7_];simp[er_]
 | b::l,n,j,hj=>by
  simp only[er_,takeWhile_cons]
  split
  ·cases j with
   | zero =>
    have e:i3_ 0=0:=rfl
    rw[e,Nat.mul_zero,Nat.add_zero,Nat.zero_div]
    have:=jA_ l n 0 (by omega)
    rw[e]at this
    rw[this];simp
   | succ j =>
    rw[tB_,jA_ l _ j (by omega),cons_append,take_succ_cons]
    rw[jq_,jv_ (dgt b),length_take]
    have:min j (l.takeWhile bA_++List.replicate 6 (48:UInt8)).length=j:=by
     simp only[List.length_append,length_replicate];omega
    rw[this]
    simp only[i3_]
    omega
  ·have:(([]:List UInt8)++List.replicate 6 48).take j=List.replicate j 48:=by
    simp only[nil_append,take_replicate];congr 1;omega
   rw[this,m7_];simp
def bq_(l:List UInt8):List UInt8:=l.dropWhile dd_
def d0_(l:List UInt8):Bool:=(l.takeWhile dd_).count 45 % 2==1
def n6_(r:List UInt8):List UInt8:=r.takeWhile bA_
def cJ_(r:List UInt8):List UInt8 :=
 match r.dropWhile bA_ with
 | 46::t=>t.takeWhile bA_
 | _=>[]
def six(f:List UInt8):List UInt8:=(f++List.replicate 6 48).take 6
def fE_(l:List UInt8):Nat:=min (di_ 0 (n6_ (bq_ l)) * 1000000+di_ 0 (six (cJ_ (bq_ l)))) 999999999999999999
def cg_(l:List UInt8):Int:=if d0_ l then -(fE_ l:Int)else fE_ l
theorem km_(l:List UInt8):fE_ l≤999999999999999999:=Nat.min_le_right _ _
theorem ex_(l:List UInt8) : -999999999999999999≤cg_ l∧cg_ l≤999999999999999999:=by
 have:=km_ l
 unfold cg_
 split<;>omega
theorem jV_(l:List UInt8):∀b∈l.takeWhile bA_,dgt b≤9:=fun b hb=>CC_ (by
 induction l with
 | nil=>simp at hb
 | cons x l ih =>
  rw[takeWhile_cons]at hb
  split at hb
  ·rcases mem_cons.1 hb with e|e
   ·subst e;assumption
   ·exact ih e
  ·simp at hb)
theorem mK_(r:List UInt8):∀b∈cJ_ r,dgt b≤9:=by
 unfold cJ_
 split
 ·exact jV_ _
 ·simp
theorem sw_{f:List UInt8}(h:∀b∈f,dgt b≤9):∀b∈six f,dgt b≤9:=by
 intro b hb
 have:=mem_of_mem_take hb
 rcases mem_append.1 this with q|q
 ·exact h b q
 ·rw[eq_of_mem_replicate q];decide
theorem jB_(f:List UInt8):(six f).length=6:=by simp[six]
theorem wn_(l:List UInt8):fD_ 0 (n6_ (bq_ l)++six (cJ_ (bq_ l)))=fE_ l:=by
 rw[oB_ _ _ (by omega),sb_,jv_ (di_ 0 _),jB_]
 ·rfl
 ·intro b hb
  rcases mem_append.1 hb with q|q
  ·exact jV_ _ b q
  ·exact sw_ (mK_ _) b q
theorem w4_(l:List UInt8):min (min (dB_ 0 (bq_ l) * 1000000) 1000000000000000000+di_ 0 (six (cJ_ (bq_ l)))) 999999999999999999=fE_ l:=by
 have h1:=m4_ (bq_ l) 0
 rw[Nat.zero_min]at h1
 have h2:=sq_ _ (sw_ (mK_ (bq_ l)))
 rw[jB_]at h2
 unfold fE_ n6_
 rw[h1]
 omega
def b7_(u:Nat):List UInt8:=if u=0 then []else decDigits u
def fd_(l:List UInt8):List UInt8:=(l.reverse.dropWhile fun b=>b==48).reverse
def jw_(r:Nat):List UInt8:=if r=0 then []else 46::fd_ ((decDigits (1000000+r)).drop 1)
def c3_(u:Nat):List UInt8:=if u=0 then [48]else b7_ (u / 1000000)++jw_ (u % 1000000)
def b4_(n:Int):List UInt8:=if n<0 then 45::c3_ n.natAbs else c3_ n.natAbs
theorem kG_(u:Nat):decDigits u≠[]:=by
 rw[decDigits];split<;>simp
theorem ho_:∀(k u:Nat),u<10 ^ (k+1)→nDigits u≤k+1
 | 0,u,h=>by rw[Go.Lib.nDigits_small (by simpa using h)];omega
 | k+1,u,h=>by
  by_cases h1:u<10
  ·rw[Go.Lib.nDigits_small h1];omega
  ·rw[Go.Lib.nDigits_big h1]
   have:=ho_ k (u / 10) (by rw[Nat.pow_succ]at h;omega)
   omega
theorem eZ_(l:List UInt8):(fd_ l).length≤l.length:=by
 unfold fd_
 rw[length_reverse]
 have:=(dropWhile_sublist (l:=l.reverse) (fun b=>b==48)).length_le
 rw[length_reverse]at this
 exact this
theorem qL_{r:Nat}(h:r<1000000):(jw_ r).length≤7:=by
 unfold jw_
 split
 ·simp
 ·have h1:=eZ_ ((decDigits (1000000+r)).drop 1)
  rw[length_drop,Go.Lib.decDigits_length,Go.Lib.nDigits_unique 6 (1000000+r) (by omega) (by omega)]at h1
  rw[List.length_cons];omega
theorem iX_{u:Nat}(h:u≤999999999999999999):(c3_ u).length≤19:=by
 unfold c3_
 split
 ·simp
 ·rw[List.length_append]
  have h1:=qL_ (r:=u % 1000000) (by omega)
  have h2:(b7_ (u / 1000000)).length≤12:=by
   unfold b7_
   split
   ·simp
   ·rw[Go.Lib.decDigits_length];exact ho_ 11 _ (by omega)
  omega
theorem gS_{n:Int}(h1 : -999999999999999999≤n)(h2:n≤999999999999999999):(b4_ n).length≤20:=by
 have:=iX_ (u:=n.natAbs) (by omega)
 unfold b4_
 split
 ·rw[List.length_cons];omega
 ·omega
theorem s4_(u:Nat):c3_ u≠[]:=by
 unfold c3_
 split
 ·simp
 ·intro h
  have h1:=(append_eq_nil_iff.1 h).1
  have h2:=(append_eq_nil_iff.1 h).2
  have e1:u / 1000000=0:=by
   unfold b7_ at h1
   split at h1
   ·assumption
   ·exact absurd h1 (kG_ _)
  have e2:u % 1000000=0:=by
   unfold jw_ at h2
   split at h2
   ·assumption
   ·simp at h2
  omega
theorem tr_(n:Int):b4_ n≠[]:=by
 unfold b4_
 split
 ·simp
 ·exact s4_ _
def dQ_(l:List UInt8):Bool:=decide (b4_ (cg_ l)=l)
theorem s7_(l:List UInt8):(decide (l≠[])&&decide (l.length≤21)&&decide (b4_ (cg_ l)=l))=dQ_ l:=by
 unfold dQ_
 by_cases h:b4_ (cg_ l)=l
 ·have h1:=tr_ (cg_ l)
  have h2:=gS_ (ex_ l).1 (ex_ l).2
  rw[h]at h1 h2
  have h3:l.length≤21:=by omega
  simp[h,h1,h3]
 ·simp[h]
theorem uu_{r:Nat}(h0:r≠0)(h:r<1000000):∃b∈(decDigits (1000000+r)).drop 1,b≠48:=by
 have hn:nDigits (1000000+r)=7:=Go.Lib.nDigits_unique 6 (1000000+r) (by omega) (by omega)
 have hd:(decDigits (1000000+r)).drop 1=[Go.Lib.dg (1000000+r) 5,Go.Lib.dg (1000000+r) 4,Go.Lib.dg (1000000+r) 3,Go.Lib.dg (1000000+r) 2,Go.Lib.dg (1000000+r) 1,Go.Lib.dg (1000000+r) 0]:=by
  rw[Go.Lib.decDigits_eq,hn];rfl
 have key:∀j,Go.Lib.dg (1000000+r) j=48→(1000000+r) / 10 ^ j % 10=0:=by
  intro j hj
  have:=congrArg UInt8.toNat hj
  simp only[Go.Lib.dg]at this
  rw[UInt8.toNat_ofNat']at this
  have h2:(48:UInt8).toNat=48:=rfl
  rw[h2]at this
  omega
 rw[hd]
 apply Classical.byContradiction
 intro hc
 have hall:∀b∈[Go.Lib.dg (1000000+r) 5,Go.Lib.dg (1000000+r) 4,Go.Lib.dg (1000000+r) 3,Go.Lib.dg (1000000+r) 2,Go.Lib.dg (1000000+r) 1,Go.Lib.dg (1000000+r) 0],b=48:=by
  intro b hb
  apply Classical.byContradiction
  intro hn
  exact hc ⟨b,hb,hn⟩
 have k5:=key 5 (hall _ (by simp))
 have k4:=key 4 (hall _ (by simp))
 have k3:=key 3 (hall _ (by simp))
 have k2:=key 2 (hall _ (by simp))
 have k1:=key 1 (hall _ (by simp))
 have k0:=key 0 (hall _ (by simp))
 simp only[Nat.reducePow]at k5 k4 k3 k2 k1 k0
 omega
end Go.AW
