/-
 Plain numbers of texts: the number that a text begins with, the one text of a number, and the ways in which both programs reckon them. Nothing of any program.
-/
import Derived.Lib.ItoaNum
namespace Go.AW
open List
open Go.Lib (decDigits nDigits itoa)
def di_(b:UInt8):Bool:=b==43||b==45
def bD_(b:UInt8):Bool:=decide (48≤b.toNat)&&decide (b.toNat≤57)
def dgt(b:UInt8):Nat:=b.toNat-48
def dm_(acc:Nat)(l:List UInt8):Nat:=l.foldl (fun a b=>10 * a+dgt b) acc
theorem fa_(acc:Nat):dm_ acc []=acc:=by unfold dm_;rw[foldl_nil]
theorem e5_(acc:Nat)(b:UInt8)(l:List UInt8):dm_ acc (b::l)=dm_ (10 * acc+dgt b) l:=by unfold dm_;rw[foldl_cons]
theorem jw_(b:UInt8)(l:List UInt8):dm_ 0 (b::l)=dm_ (dgt b) l:=by rw[e5_,Nat.mul_zero,Nat.zero_add]
theorem rf_(acc:Nat)(a b:List UInt8):dm_ acc (a++b)=dm_ (dm_ acc a) b:=by
 induction a generalizing acc with
 | nil=>rw[nil_append,fa_]
 | cons x a ih=>rw[cons_append,e5_,e5_,ih]
theorem j3_(acc:Nat)(l:List UInt8):dm_ acc l=acc * 10 ^ l.length+dm_ 0 l:=by
 induction l generalizing acc with
 | nil=>rw[List.length_nil,Nat.pow_zero,Nat.mul_one,fa_,fa_];rfl
 | cons b l ih =>
  rw[e5_,jw_,ih (10 * acc+dgt b),ih (dgt b),List.length_cons,Nat.pow_succ,Nat.add_mul,Nat.mul_comm 10 acc,Nat.mul_assoc,Nat.mul_comm 10,Nat.add_assoc]
theorem yu_(acc:Nat)(l:List UInt8):acc≤dm_ acc l:=by
 rw[j3_]
 have:1≤10 ^ l.length:=Nat.one_le_pow _ _ (by decide)
 have:=Nat.mul_le_mul_left acc this
 omega
theorem BN_{b:UInt8}(h:bD_ b=true):dgt b≤9:=by
 simp only[bD_,Bool.and_eq_true,decide_eq_true_eq]at h
 unfold dgt;omega
theorem r6_:∀(l:List UInt8),(∀b∈l,dgt b≤9)→dm_ 0 l<10 ^ l.length
 | [],_=>by rw[List.length_nil,Nat.pow_zero,fa_];exact Nat.zero_lt_one
 | b::l,h=>by
  have h2:=r6_ l (fun x hx=>h x (by simp[hx]))
  have h3:=h b (by simp)
  rw[jw_,j3_,List.length_cons,Nat.pow_succ]
  generalize 10 ^ l.length=p at *
  have:dgt b * p≤9 * p:=Nat.mul_le_mul_right _ h3
  omega
def fE_(n:Nat):List UInt8→Nat
 | []=>n
 | c::cs=>if(999999999999999999-dgt c) / 10<n then 999999999999999999 else fE_ (10 * n+dgt c) cs
theorem oN_:∀(l:List UInt8) (n:Nat),n≤999999999999999999→(∀b∈l,dgt b≤9)→fE_ n l=min (dm_ n l) 999999999999999999
 | [],n,h,_=>by rw[fa_];show n=_;omega
 | c::cs,n,h,hd=>by
  have h3:=hd c (by simp)
  rw[e5_]
  show(if(999999999999999999-dgt c) / 10<n then 999999999999999999 else fE_ (10 * n+dgt c) cs)=_
  split
  ·have:=yu_ (10 * n+dgt c) cs
   omega
  ·exact oN_ cs _ (by omega) (fun b hb=>hd b (by simp[hb]))
def dx_(n:Nat):List UInt8→Nat
 | []=>n
 | b::bs=>if bD_ b then dx_ (min (10 * n+dgt b) 1000000000000) bs else n
theorem mW_:∀(l:List UInt8) (n:Nat),dx_ (min n 1000000000000) l=min (dm_ n (l.takeWhile bD_)) 1000000000000
 | [],n=>by rw[takeWhile_nil,fa_];rfl
 | b::l,n=>by
  simp only[dx_,takeWhile_cons]
  split
  ·have e:min (10 * min n 1000000000000+dgt b) 1000000000000=min (10 * n+dgt b) 1000000000000:=by omega
   rw[e,mW_ l,e5_]
  ·rw[fa_]
def eq_(n unit:Nat):List UInt8→Nat
 | []=>n
 | b::bs=>if bD_ b then eq_ (n+dgt b * unit) (unit / 10) bs else n
def jg_:Nat→Nat
 | 0=>0
 | j+1=>10 ^ j
theorem th_(j:Nat):jg_ (j+1) / 10=jg_ j:=by
 cases j with
 | zero=>rfl
 | succ j=>simp only[jg_,Nat.pow_succ];omega
theorem nk_(acc n:Nat):dm_ acc (List.replicate n 48)=acc * 10 ^ n:=by
 induction n generalizing acc with
 | zero=>rw[replicate_zero,fa_,Nat.pow_zero,Nat.mul_one]
 | succ n ih =>
  have:dgt 48=0:=rfl
  rw[replicate_succ,e5_,ih,this,Nat.add_zero,Nat.pow_succ,Nat.mul_comm 10 acc,Nat.mul_assoc,Nat.mul_comm 10]
theorem jS_:∀(l:List UInt8) (n j:Nat),j≤6→eq_ n (jg_ j) l=n+dm_ 0 ((l.takeWhile bD_++List.replicate 6 48).take j)
 | [],n,j,hj=>by
  have:(([]:List UInt8).takeWhile bD_++List.replicate 6 48).take j=List.replicate j 48:=by
   simp only[takeWhile_nil,nil_append,take_replicate];congr 1;omega
  rw[this,nk_];simp[eq_]
 | b::l,n,j,hj=>by
  simp only[eq_,takeWhile_cons]
  split
  ·cases j with
   | zero =>
    have e:jg_ 0=0:=rfl
    rw[e,Nat.mul_zero,Nat.add_zero,Nat.zero_div]
    have:=jS_ l n 0 (by omega)
    rw[e]at this
    rw[this];simp
   | succ j =>
    rw[th_,jS_ l _ j (by omega),cons_append,take_succ_cons]
    rw[jw_,j3_ (dgt b),length_take]
    have:min j (l.takeWhile bD_++List.replicate 6 (48:UInt8)).length=j:=by
     simp only[List.length_append,length_replicate];omega
    rw[this]
    simp only[jg_]
    omega
  ·have:(([]:List UInt8)++List.replicate 6 48).take j=List.replicate j 48:=by
    simp only[nil_append,take_replicate];congr 1;omega
   rw[this,nk_];simp
def bp_(l:List UInt8):List UInt8:=l.dropWhile di_
def dU_(l:List UInt8):Bool:=(l.takeWhile di_).count 45 % 2==1
def n5_(r:List UInt8):List UInt8:=r.takeWhile bD_
def cQ_(r:List UInt8):List UInt8 :=
 match r.dropWhile bD_ with
 | 46::t=>t.takeWhile bD_
 | _=>[]
def six(f:List UInt8):List UInt8:=(f++List.replicate 6 48).take 6
def fz_(l:List UInt8):Nat:=min (dm_ 0 (n5_ (bp_ l)) * 1000000+dm_ 0 (six (cQ_ (bp_ l)))) 999999999999999999
def cj_(l:List UInt8):Int:=if dU_ l then -(fz_ l:Int)else fz_ l
theorem k3_(l:List UInt8):fz_ l≤999999999999999999:=Nat.min_le_right _ _
theorem eG_(l:List UInt8) : -999999999999999999≤cj_ l∧cj_ l≤999999999999999999:=by
 have:=k3_ l
 unfold cj_
 split<;>omega
theorem kh_(l:List UInt8):∀b∈l.takeWhile bD_,dgt b≤9:=fun b hb=>BN_ (by
 induction l with
 | nil=>simp at hb
 | cons x l ih =>
  rw[takeWhile_cons]at hb
  split at hb
  ·rcases mem_cons.1 hb with e|e
   ·subst e;assumption
   ·exact ih e
  ·simp at hb)
theorem mL_(r:List UInt8):∀b∈cQ_ r,dgt b≤9:=by
 unfold cQ_
 split
 ·exact kh_ _
 ·simp
theorem sj_{f:List UInt8}(h:∀b∈f,dgt b≤9):∀b∈six f,dgt b≤9:=by
 intro b hb
 have:=mem_of_mem_take hb
 rcases mem_append.1 this with q|q
 ·exact h b q
 ·rw[eq_of_mem_replicate q];decide
theorem jW_(f:List UInt8):(six f).length=6:=by simp[six]
theorem ws_(l:List UInt8):fE_ 0 (n5_ (bp_ l)++six (cQ_ (bp_ l)))=fz_ l:=by
 rw[oN_ _ _ (by omega),rf_,j3_ (dm_ 0 _),jW_]
 ·rfl
 ·intro b hb
  rcases mem_append.1 hb with q|q
  ·exact kh_ _ b q
  ·exact sj_ (mL_ _) b q
theorem vM_(l:List UInt8):min (min (dx_ 0 (bp_ l) * 1000000) 1000000000000000000+dm_ 0 (six (cQ_ (bp_ l)))) 999999999999999999=fz_ l:=by
 have h1:=mW_ (bp_ l) 0
 rw[Nat.zero_min]at h1
 have h2:=r6_ _ (sj_ (mL_ (bp_ l)))
 rw[jW_]at h2
 unfold fz_ n5_
 rw[h1]
 omega
def b4_(u:Nat):List UInt8:=if u=0 then []else decDigits u
def fg_(l:List UInt8):List UInt8:=(l.reverse.dropWhile fun b=>b==48).reverse
def js_(r:Nat):List UInt8:=if r=0 then []else 46::fg_ ((decDigits (1000000+r)).drop 1)
def c7_(u:Nat):List UInt8:=if u=0 then [48]else b4_ (u / 1000000)++js_ (u % 1000000)
def b1_(n:Int):List UInt8:=if n<0 then 45::c7_ n.natAbs else c7_ n.natAbs
theorem kN_(u:Nat):decDigits u≠[]:=by
 rw[decDigits];split<;>simp
theorem hD_:∀(k u:Nat),u<10 ^ (k+1)→nDigits u≤k+1
 | 0,u,h=>by rw[Go.Lib.nDigits_small (by simpa using h)];omega
 | k+1,u,h=>by
  by_cases h1:u<10
  ·rw[Go.Lib.nDigits_small h1];omega
  ·rw[Go.Lib.nDigits_big h1]
   have:=hD_ k (u / 10) (by rw[Nat.pow_succ]at h;omega)
   omega
theorem fc_(l:List UInt8):(fg_ l).length≤l.length:=by
 unfold fg_
 rw[length_reverse]
 have:=(dropWhile_sublist (l:=l.reverse) (fun b=>b==48)).length_le
 rw[length_reverse]at this
 exact this
theorem qW_{r:Nat}(h:r<1000000):(js_ r).length≤7:=by
 unfold js_
 split
 ·simp
 ·have h1:=fc_ ((decDigits (1000000+r)).drop 1)
  rw[length_drop,Go.Lib.decDigits_length,Go.Lib.nDigits_unique 6 (1000000+r) (by omega) (by omega)]at h1
  rw[List.length_cons];omega
theorem jh_{u:Nat}(h:u≤999999999999999999):(c7_ u).length≤19:=by
 unfold c7_
 split
 ·simp
 ·rw[List.length_append]
  have h1:=qW_ (r:=u % 1000000) (by omega)
  have h2:(b4_ (u / 1000000)).length≤12:=by
   unfold b4_
   split
   ·simp
   ·rw[Go.Lib.decDigits_length];exact hD_ 11 _ (by omega)
  omega
theorem gV_{n:Int}(h1 : -999999999999999999≤n)(h2:n≤999999999999999999):(b1_ n).length≤20:=by
 have:=jh_ (u:=n.natAbs) (by omega)
 unfold b1_
 split
 ·rw[List.length_cons];omega
 ·omega
theorem sM_(u:Nat):c7_ u≠[]:=by
 unfold c7_
 split
 ·simp
 ·intro h
  have h1:=(append_eq_nil_iff.1 h).1
  have h2:=(append_eq_nil_iff.1 h).2
  have e1:u / 1000000=0:=by
   unfold b4_ at h1
   split at h1
   ·assumption
   ·exact absurd h1 (kN_ _)
  have e2:u % 1000000=0:=by
   unfold js_ at h2
   split at h2
   ·assumption
   ·simp at h2
  omega
theorem tG_(n:Int):b1_ n≠[]:=by
 unfold b1_
 split
 ·simp
 ·exact sM_ _
def d5_(l:List UInt8):Bool:=decide (b1_ (cj_ l)=l)
theorem tl_(l:List UInt8):(decide (l≠[])&&decide (l.length≤21)&&decide (b1_ (cj_ l)=l))=d5_ l:=by
 unfold d5_
 by_cases h:b1_ (cj_ l)=l
 ·have h1:=tG_ (cj_ l)
  have h2:=gV_ (eG_ l).1 (eG_ l).2
  rw[h]at h1 h2
  have h3:l.length≤21:=by omega
  simp[h,h1,h3]
 ·simp[h]
theorem tL_{r:Nat}(h0:r≠0)(h:r<1000000):∃b∈(decDigits (1000000+r)).drop 1,b≠48:=by
 have hn:nDigits (1000000+r)=7:=Go.Lib.nDigits_unique 6 (1000000+r) (by omega) (by omega)
 have hd:(decDigits (1000000+r)).drop 1=[Go.Lib.dg (1000000+r) 5,Go.Lib.dg (1000000+r) 4,Go.Lib.dg (1000000+r) 3,Go.Lib.dg (1000000+r) 2,Go.Lib.dg (1000000+r) 1,Go.Lib.dg (1000000+r) 0]:=by
  rw[Go.Lib.decDigits_eq,hn];rfl
 have key:∀j,Go.Lib.dg (1000000+r) j=48→(1000000+r) / 10 ^ j % 10=0:=by
  intro j hj
  have:=congrArg UInt8.toNat hj
  simp only[Go.Lib.dg]at this
  rw[UInt8.toNat_ofNat']at this
  have h2:(48:UInt8).toNat=48:=rfl
  rw[h2]at this
  omega
 rw[hd]
 apply Classical.byContradiction
 intro hc
 have hall:∀b∈[Go.Lib.dg (1000000+r) 5,Go.Lib.dg (1000000+r) 4,Go.Lib.dg (1000000+r) 3,Go.Lib.dg (1000000+r) 2,Go.Lib.dg (1000000+r) 1,Go.Lib.dg (1000000+r) 0],b=48:=by
  intro b hb
  apply Classical.byContradiction
  intro hn
  exact hc ⟨b,hb,hn⟩
 have k5:=key 5 (hall _ (by simp))
 have k4:=key 4 (hall _ (by simp))
 have k3:=key 3 (hall _ (by simp))
 have k2:=key 2 (hall _ (by simp))
 have k1:=key 1 (hall _ (by simp))
 have k0:=key 0 (hall _ (by simp))
 simp only[Nat.reducePow]at k5 k4 k3 k2 k1 k0
 omega
end Go.AW
