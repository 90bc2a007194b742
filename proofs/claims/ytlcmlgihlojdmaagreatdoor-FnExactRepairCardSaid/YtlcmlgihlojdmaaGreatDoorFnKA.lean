/-
 Contracts of functions. Conditions: as each theorem says.
-/
import Derived.Test.YtlcmlgihlojdmaaGreatDoorFnO
import Derived.Test.YtlcmlgihlojdmaaGreatDoorAwC
import Derived.Test.YtlcmlgihlojdmaaGreatDoorPlNum
import Derived.Test.YtlcmlgihlojdmaaGreatDoorPlKey
namespace Go.Proofs.YtlcmlgihlojdmaaGreatDoor
open Tryz (prog)
open List
open Go.AW
set_option linter.unusedVariables false
set_option linter.unusedSimpArgs false
set_option maxRecDepth 4000
abbrev bs(s:ByteArray):List UInt8:=s.data.toList
abbrev bss(xs:List ByteArray):List (List UInt8):=xs.map fun s=>s.data.toList
theorem fF_(s:ByteArray):txt s.data.toList=s:=(kb_ s).symm
theorem fc_(s:ByteArray):s.data.toList.length=s.size:=by rw[Array.length_toList];rfl
theorem BU_(a b:ByteArray):(a.data.toList=b.data.toList)=(a=b):=by
 apply propext;constructor
 ·intro h;rw[←fF_ a,←fF_ b,h]
 ·intro h;rw[h]
theorem l5_(s:ByteArray)(hs:s.size≤1048576)(h:List Row):PureCall prog 215 [.val (.string s)] h (.val (.bool (dQ_ s.data.toList))):=by
 have:=mZ_ s.data.toList (by rw[fc_];omega) h
 rwa [fF_]at this
theorem n5_(s:ByteArray)(hs:s.size≤1048576)(h:List Row):PureCall prog 216 [.val (.string s)] h (.val (.int .i64 (cg_ s.data.toList))):=by
 have:=j3_ s.data.toList (by rw[fc_];omega) h
 rwa [fF_]at this
def eqS(s t:ByteArray):Bool:=decide (s=t)
def vr_(xs ys:List ByteArray):Bool:=decide (xs.length≤ys.length)&&AY_ eqS xs (ys.take xs.length)
def d3_(b:Int):Bool:=decide (97≤b)&&decide (b≤122)||decide (65≤b)&&decide (b≤90)
def ga_(b:Int):Bool:=decide (48≤b)&&decide (b≤57)
def eh_(s:ByteArray):Bool:=decide (1≤(s.size:Int))&&decide ((s.size:Int)≤24)
def AK_:LC :=
 .q [.o [.f 2],.o [.m 3 0,.s 4 (.bin .leq false (.const (.int .u8 97)) (.tmp 3)),.m 5 4,.gm 6 5 true 0,.g 7 5 true (.bin .leq false (.tmp 6) (.const (.int .u8 122))),.pf 8 5 7,.m 9 8,.gm 10 9 false 0,.g 11 9
 false (.bin .leq false (.const (.int .u8 65)) (.tmp 10)),.gm 12 9 false 11,.gm 13 12 true 0,.g 14 12 true (.bin .leq false (.tmp 13) (.const (.int .u8 90))),.g 15 9 false (.pick (.tmp 12) (.tmp 14) (.const (.bool
 false))),.pt 16 9 15,.m 2 16],.ret]
def yb_:LF:=⟨1,17,AK_,[.tmp 2]⟩
theorem CO_:az_ prog Tryz.f160 yb_:=at_
theorem eA_(b:Int)  (h:List Row):PureCall prog 160 [.val (.int .u8 b)] h (.val (.bool (d3_ b))):=by
 refine ar_ mixed Tryz.func160 CO_ rfl rfl ?_ h
 simp(disch:=omega)only[yb_,AK_,go_sem,seval]
 repeat' (first
  | exact ak_ _ _
  | (refine ao_ ?_;first|rfl|(simp only[d3_, *,Bool.true_and,Bool.and_false,Bool.false_and,Bool.true_or,Bool.false_or,decide_true,decide_false,Bool.and_self,Bool.or_self];done)|(simp[d3_, *];done))
  | simp(disch:=omega)only[go_sem,seval]
  | ((first|(apply b0_;assumption)|(apply bY_;assumption)|(apply ck_;assumption)|(apply cj_;assumption));intro hb;try simp only[hb])
  | ((first|(apply a3_;assumption)|(apply a4_;assumption)|(apply bm_;assumption)|(apply bl_;assumption));intro hb;try simp only[hb])
  | ((first|apply a6_|apply bd_|apply aG_|apply aF_)<;>intro hb<;>(try simp only[hb])<;>(first|have hp:=bF_ hb|have hp:=bK_ hb|have hp:=bL_ hb|have hp:=bG_ hb|skip)))
def Cx_:LC :=
 .q [.o [.f 2],.o [.m 3 0,.s 4 (.bin .geq false (.tmp 3) (.const (.int .u8 97))),.m 5 4,.gm 6 5 true 0,.g 7 5 true (.bin .leq false (.tmp 6) (.const (.int .u8 122))),.pf 8 5 7,.m 9 8,.gm 10 9 false 0,.g 11 9
 false (.bin .geq false (.tmp 10) (.const (.int .u8 65))),.gm 12 9 false 11,.gm 13 12 true 0,.g 14 12 true (.bin .leq false (.tmp 13) (.const (.int .u8 90))),.g 15 9 false (.pick (.tmp 12) (.tmp 14) (.const (.bool
 false))),.pt 16 9 15,.m 2 16],.ret]
def xQ_:LF:=⟨1,17,Cx_,[.tmp 2]⟩
theorem CJ_:az_ prog Tryz.f190 xQ_:=at_
theorem cU_(b:Int)  (h:List Row):PureCall prog 190 [.val (.int .u8 b)] h (.val (.bool (d3_ b))):=by
 refine ar_ mixed Tryz.func190 CJ_ rfl rfl ?_ h
 simp(disch:=omega)only[xQ_,Cx_,go_sem,seval]
 repeat' (first
  | exact ak_ _ _
  | (refine ao_ ?_;first|rfl|(simp only[d3_, *,Bool.true_and,Bool.and_false,Bool.false_and,Bool.true_or,Bool.false_or,decide_true,decide_false,Bool.and_self,Bool.or_self];done)|(simp[d3_, *];done))
  | simp(disch:=omega)only[go_sem,seval]
  | ((first|(apply b0_;assumption)|(apply bY_;assumption)|(apply ck_;assumption)|(apply cj_;assumption));intro hb;try simp only[hb])
  | ((first|(apply a3_;assumption)|(apply a4_;assumption)|(apply bm_;assumption)|(apply bl_;assumption));intro hb;try simp only[hb])
  | ((first|apply a6_|apply bd_|apply aG_|apply aF_)<;>intro hb<;>(try simp only[hb])<;>(first|have hp:=bF_ hb|have hp:=bK_ hb|have hp:=bL_ hb|have hp:=bG_ hb|skip)))
def z1_:LC :=
 .q [.o [.f 2],.o [.m 3 0,.s 4 (.bin .leq false (.const (.int .u8 48)) (.tmp 3)),.m 5 4,.gm 6 5 true 0,.g 7 5 true (.bin .leq false (.tmp 6) (.const (.int .u8 57))),.pf 8 5 7,.m 2 8],.ret]
def x3_:LF:=⟨1,9,z1_,[.tmp 2]⟩
theorem Cb_:az_ prog Tryz.f161 x3_:=at_
theorem eO_(b:Int)  (h:List Row):PureCall prog 161 [.val (.int .u8 b)] h (.val (.bool (ga_ b))):=by
 refine ar_ mixed Tryz.func161 Cb_ rfl rfl ?_ h
 simp(disch:=omega)only[x3_,z1_,go_sem,seval]
 repeat' (first
  | exact ak_ _ _
  | (refine ao_ ?_;first|rfl|(simp only[ga_, *,Bool.true_and,Bool.false_and,decide_true,decide_false];done)|(simp[ga_, *];done))
  | simp(disch:=omega)only[go_sem,seval]
  | ((first|(apply b0_;assumption)|(apply bY_;assumption)|(apply ck_;assumption)|(apply cj_;assumption));intro hb;try simp only[hb])
  | ((first|(apply a3_;assumption)|(apply a4_;assumption)|(apply bm_;assumption)|(apply bl_;assumption));intro hb;try simp only[hb])
  | ((first|apply a6_|apply bd_|apply aG_|apply aF_)<;>intro hb<;>(try simp only[hb])<;>(first|have hp:=bF_ hb|have hp:=bK_ hb|have hp:=bL_ hb|have hp:=bG_ hb|skip)))
theorem ei_(b:Int)  (h:List Row):PureCall prog 191 [.val (.int .u8 b)] h (.val (.bool (ga_ b))):=by
 refine ar_ mixed Tryz.func191 t8_ rfl rfl ?_ h
 simp(disch:=omega)only[sQ_,vN_,go_sem,seval]
 repeat' (first
  | exact ak_ _ _
  | (refine ao_ ?_;first|rfl|(simp only[ga_, *,Bool.true_and,Bool.false_and,decide_true,decide_false];done)|(simp[ga_, *];done))
  | simp(disch:=omega)only[go_sem,seval]
  | ((first|(apply b0_;assumption)|(apply bY_;assumption)|(apply ck_;assumption)|(apply cj_;assumption));intro hb;try simp only[hb])
  | ((first|(apply a3_;assumption)|(apply a4_;assumption)|(apply bm_;assumption)|(apply bl_;assumption));intro hb;try simp only[hb])
  | ((first|apply a6_|apply bd_|apply aG_|apply aF_)<;>intro hb<;>(try simp only[hb])<;>(first|have hp:=bF_ hb|have hp:=bK_ hb|have hp:=bL_ hb|have hp:=bG_ hb|skip)))
def Ap_:LC :=
 .q [.o [.f 2],.o [.m 3 0,.s 4 (.lenStr (.tmp 3)),.bk 5 .geq false 4 1,.m 6 5,.gm 7 6 true 0,.g 8 6 true (.lenStr (.tmp 7)),.g 9 6 true (.bin .leq false (.tmp 8) (.const (.int .i64 24))),.pf 10 6 9,.m 2 10],
 .ret]
def xG_:LF:=⟨1,11,Ap_,[.tmp 2]⟩
theorem BJ_:az_ prog Tryz.f184 xG_:=at_
theorem jX_(s:ByteArray)  (h:List Row):PureCall prog 184 [.val (.string s)] h (.val (.bool (eh_ s))):=by
 refine ar_ mixed Tryz.func184 BJ_ rfl rfl ?_ h
 simp(disch:=omega)only[xG_,Ap_,go_sem,seval]
 repeat' (first
  | exact ak_ _ _
  | (refine ao_ ?_;first|rfl|(simp only[eh_, *,Bool.true_and,Bool.false_and,decide_true,decide_false];done)|(simp[eh_, *];done))
  | simp(disch:=omega)only[go_sem,seval]
  | ((first|(apply b0_;assumption)|(apply bY_;assumption)|(apply ck_;assumption)|(apply cj_;assumption));intro hb;try simp only[hb])
  | ((first|(apply a3_;assumption)|(apply a4_;assumption)|(apply bm_;assumption)|(apply bl_;assumption));intro hb;try simp only[hb])
  | ((first|apply a6_|apply bd_|apply aG_|apply aF_)<;>intro hb<;>(try simp only[hb])<;>(first|have hp:=bF_ hb|have hp:=bK_ hb|have hp:=bL_ hb|have hp:=bG_ hb|skip)))
def AC_:LC :=
 .q [.o [.f 2],.o [.m 3 0,.s 4 (.lenStr (.tmp 3)),.bk 5 .geq false 4 1,.m 6 5,.gm 7 6 true 0,.g 8 6 true (.lenStr (.tmp 7)),.g 9 6 true (.bin .leq false (.tmp 8) (.const (.int .i64 24))),.pf 10 6 9,.m 2 10],
 .ret]
def xI_:LF:=⟨1,11,AC_,[.tmp 2]⟩
theorem AD_:az_ prog Tryz.f149 xI_:=at_
theorem fs_(s:ByteArray)  (h:List Row):PureCall prog 149 [.val (.string s)] h (.val (.bool (eh_ s))):=by
 refine ar_ mixed Tryz.func149 AD_ rfl rfl ?_ h
 simp(disch:=omega)only[xI_,AC_,go_sem,seval]
 repeat' (first
  | exact ak_ _ _
  | (refine ao_ ?_;first|rfl|(simp only[eh_, *,Bool.true_and,Bool.false_and,decide_true,decide_false];done)|(simp[eh_, *];done))
  | simp(disch:=omega)only[go_sem,seval]
  | ((first|(apply b0_;assumption)|(apply bY_;assumption)|(apply ck_;assumption)|(apply cj_;assumption));intro hb;try simp only[hb])
  | ((first|(apply a3_;assumption)|(apply a4_;assumption)|(apply bm_;assumption)|(apply bl_;assumption));intro hb;try simp only[hb])
  | ((first|apply a6_|apply bd_|apply aG_|apply aF_)<;>intro hb<;>(try simp only[hb])<;>(first|have hp:=bF_ hb|have hp:=bK_ hb|have hp:=bL_ hb|have hp:=bG_ hb|skip)))
def A0_:LC :=
 .q [.o [.ki 4 0],.q [.o [.m 6 0,.ll 7 6,.ki 8 0],.block 0 (.loop (.q [.o [.bb 9 .lss false 8 7],.k 9 .skip (.exit 0),.block 1 (.q [.o [.m 10 8,.m 5 10],.o [.m 11 1,.m 12 0,.m 13 5,.ia 14 1 12 13,.ln 15 14,.s
 16 (.callv (.tmp 11) [.tmp 15])],.k 16 (.q [.o [.m 17 5,.m 4 17],.ret]) .skip]),.o [.bk 18 .add false 8 1,.m 8 18]]))],.o [.s 4 (.mov (.const (.int .i64 (-1))))],.ret]
def xN_:LF:=⟨2,19,A0_,[.tmp 4]⟩
theorem z8_:az_ prog Tryz.f129 xN_:=at_
theorem hb_(xs:List ByteArray)(p:ByteArray→Bool)(g:Nat)(hx:xs.length≤1048576)(hc:dk_ prog g=true)(hp:∀x∈xs,∀h,PureCall prog g [.val (.string x)] h (.val (.bool (p x))))(h:List Row) :
 PureCall prog 129 [.list 0 1 (xs.map ah_),.fn g [] []] h (.val (.int .i64 (co_ p xs 0))):=by
 refine ar_ mixed Tryz.func129 z8_ rfl rfl ?_ h
 simp(disch:=omega)only[xN_,A0_,go_sem,seval]
 refine aL_ (fun n t h=>∃k:Nat,t 0=.list 0 1 (xs.map ah_)∧t 1=.fn g [] []∧t 6=.list 0 1 (xs.map ah_)∧t 7=.val (.int .i64 xs.length)∧t 8=.val (.int .i64 k)∧n=xs.length-k∧k≤xs.length∧(co_ p xs 0=co_ p (xs.drop k) k)) (xs.length) ?_ ?_
 ·exact⟨0,rfl,rfl,rfl,rfl,rfl,rfl,Nat.zero_le _,rfl⟩
 ·rintro J hJ n t h ⟨k,t0,t1,t6,t7,k8,rfl,hk,hS⟩
  by_cases hlt:k<xs.length
  ·skip
   rw[h3_ p xs k hlt]at hS
   simp(disch:=omega)only[t0,t1,t7,k8,hlt,hc,ah_,go_sem,seval]
   repeat' (first
    | exact ak_ _ _
    | exact⟨xs.length-(k+1),by omega,hJ _ _ _ ⟨k+1,by simp[upd,t0],by simp[upd,t1],by simp[upd,t6],by simp[upd,t7],by simp[upd],rfl,by omega,by rw[hS];simp[*]⟩⟩
    | (refine aK_ ?_;rw[hS];simp[*];done)
    | (refine aK_ ?_;rw[hS,eK_ _ _ _ (by omega)])
    | simp(disch:=omega)only[k8,go_sem,seval]
    | (refine PureCall.call (hp xs[k] (getElem_mem hlt) _) ?_)
    | (refine PureCall.q (hp xs[k] (getElem_mem hlt) _) ?_)
    | ((first|(apply a3_;assumption)|(apply a4_;assumption)|(apply bm_;assumption)|(apply bl_;assumption));intro hb;try simp only[hb])
    | ((first|apply aG_|apply aF_)<;>intro hb<;>(try simp only[hb])<;>(first|have hp:=bF_ hb|have hp:=bK_ hb|have hp:=bL_ hb|have hp:=bG_ hb|skip)))
  ·skip
   simp(disch:=omega)only[t7,k8,hlt,go_sem,seval]
   repeat' (first
    | exact ak_ _ _
    | (refine aK_ ?_;rw[hS];simp[*];done)
    | (refine aK_ ?_;rw[hS,eK_ _ _ _ (by omega)])
    | simp(disch:=omega)only[t0,t1,t6,t7,k8,go_sem,seval]
    | (refine PureCall.call (hp xs[k] (getElem_mem hlt) _) ?_)
    | (refine PureCall.q (hp xs[k] (getElem_mem hlt) _) ?_)
    | ((first|(apply a3_;assumption)|(apply a4_;assumption)|(apply bm_;assumption)|(apply bl_;assumption));intro hb;try simp only[hb])
    | ((first|apply aG_|apply aF_)<;>intro hb<;>(try simp only[hb])<;>(first|have hp:=bF_ hb|have hp:=bK_ hb|have hp:=bL_ hb|have hp:=bG_ hb|skip)))
def c77:LC :=
 .q [.o [.f 4],.o [.m 5 0,.m 6 1,.c2 7 129 5 6,.bk 8 .geq false 7 0,.m 4 8],.ret]
def Aa_:LF:=⟨2,9,c77,[.tmp 4]⟩
theorem Dr_:az_ prog Tryz.f77 Aa_:=at_
theorem cr_(xs:List ByteArray)(p:ByteArray→Bool)(g:Nat)(hx:xs.length≤1048576)(hc:dk_ prog g=true)(hp:∀x∈xs,∀h,PureCall prog g [.val (.string x)] h (.val (.bool (p x))))(h:List Row) :
 PureCall prog 77 [.list 0 1 (xs.map ah_),.fn g [] []] h (.val (.bool (xs.any p))):=by
 refine ar_ mixed Tryz.func77 Dr_ rfl rfl ?_ h
 simp(disch:=omega)only[Aa_,c77,go_sem,seval]
 refine PureCall.call (hb_ xs p g hx hc hp _) ?_
 simp(disch:=omega)only[go_sem,↓reduceIte]
 exact ao_ (lA_ p xs)
def ce_(xs:List ByteArray):Bool:=decide ((xs.length:Int)≤4)&&xs.all eh_
def Be_:LC :=
 .q [.o [.f 2],.o [.m 3 0,.c1 4 184 3,.nt 5 4,.m 2 5],.ret]
def xB_:LF:=⟨1,6,Be_,[.tmp 2]⟩
theorem Ax_:az_ prog Tryz.f183 xB_:=at_
theorem hl_(s:ByteArray)  (h:List Row):PureCall prog 183 [.val (.string s)] h (.val (.bool (!eh_ s))):=by
 refine ar_ mixed Tryz.func183 Ax_ rfl rfl ?_ h
 simp(disch:=omega)only[xB_,Be_,go_sem,seval]
 repeat' (first
  | exact ak_ _ _
  | simp(disch:=omega)only[go_sem,↓reduceIte]
  | (refine PureCall.call (jX_ _ _) ?_)
  | (refine PureCall.q (jX_ _ _) ?_)
  | ((first|(apply a3_;assumption)|(apply a4_;assumption)|(apply bm_;assumption)|(apply bl_;assumption));intro hb;try simp only[hb])
  | ((first|apply aG_|apply aF_)<;>intro hb<;>(try simp only[hb])<;>(first|have hp:=bF_ hb|have hp:=bK_ hb|have hp:=bL_ hb|have hp:=bG_ hb|skip)))
theorem hK_{α:Type}(p:α→Bool)(xs:List α):(!xs.any fun x=>!p x)=xs.all p:=by
 induction xs with
 | nil=>rfl
 | cons x xs ih=>simp only[any_cons,all_cons,Bool.not_or,Bool.not_not,ih]
def BR_:LC :=
 .q [.o [.f 2],.o [.m 3 0,.ll 4 3,.bk 5 .leq false 4 4,.m 6 5,.gm 7 6 true 0,.g 8 6 true (.call 77 [.tmp 7,.func 183]),.gu 9 6 true 8,.pf 10 6 9,.m 2 10],.ret]
def yp_:LF:=⟨1,11,BR_,[.tmp 2]⟩
theorem A6_:az_ prog Tryz.f144 yp_:=at_
theorem gL_(xs:List ByteArray)(hx:xs.length≤1048576)(h:List Row):PureCall prog 144 [.list 0 1 (xs.map ah_)] h (.val (.bool (ce_ xs))):=by
 refine ar_ mixed Tryz.func144 A6_ rfl rfl ?_ h
 simp(disch:=omega)only[yp_,BR_,go_sem,seval]
 repeat' (first
  | exact ak_ _ _
  | (refine ao_ ?_;simp only[hK_,ce_, *,Bool.true_and,Bool.false_and,decide_true,decide_false];done)
  | (refine ao_ ?_;first|rfl|(simp only[ce_, *,Bool.and_true,Bool.true_and,Bool.and_false,Bool.false_and,Bool.or_true,Bool.true_or,Bool.or_false,Bool.false_or,Bool.not_true,Bool.not_false,decide_true,decide_false,Bool.and_self,Bool.or_self];done)|(simp[ce_, *];done))
  | simp(disch:=omega)only[go_sem,seval]
  | (refine PureCall.call (cr_ _ (fun s=>!eh_ s) 183 hx (by kernel_rfl) (fun x _ h=>hl_ x h) _) ?_)
  | (refine PureCall.q (cr_ _ (fun s=>!eh_ s) 183 hx (by kernel_rfl) (fun x _ h=>hl_ x h) _) ?_)
  | ((first|(apply b0_;assumption)|(apply bY_;assumption)|(apply ck_;assumption)|(apply cj_;assumption));intro hb;try simp only[hb])
  | ((first|(apply a3_;assumption)|(apply a4_;assumption)|(apply bm_;assumption)|(apply bl_;assumption));intro hb;try simp only[hb])
  | ((first|apply a6_|apply bd_|apply aG_|apply aF_)<;>intro hb<;>(try simp only[hb])<;>(first|have hp:=bF_ hb|have hp:=bK_ hb|have hp:=bL_ hb|have hp:=bG_ hb|skip)))
def c99:LC :=
 .q [.o [.f 2],.q [.o [.m 4 0,.ll 5 4,.bk 6 .gtr false 5 4],.k 6 (.q [.o [.f 2],.ret]) .skip],.q [.o [.ki 3 0],.block 0 (.loop (.q [.q [.o [.m 7 3,.m 8 0,.ll 9 8,.bb 10 .lss false 7 9],.k 10 .skip (.exit 0)],
 .block 1 (.q [.o [.m 13 0,.m 14 3,.ia 15 1 13 14,.ln 16 15,.c1 17 149 16,.nt 18 17],.k 18 (.q [.o [.f 2],.ret]) .skip]),.o [.m 11 3,.bk 12 .add false 11 1,.m 3 12]]))],.o [.t 2],.ret]
def w3_:LF:=⟨1,19,c99,[.tmp 2]⟩
theorem CU_:az_ prog Tryz.f99 w3_:=at_
theorem gd_(xs:List ByteArray)(hx:xs.length≤1048576)(h:List Row):PureCall prog 99 [.list 0 1 (xs.map ah_)] h (.val (.bool (ce_ xs))):=by
 refine ar_ mixed Tryz.func99 CU_ rfl rfl ?_ h
 by_cases h4:(xs.length:Int)≤4
 ·have h4':((4:Int)<xs.length)=False:=by simp;omega
  have hS0:ce_ xs=xs.all eh_:=by simp[ce_,h4]
  simp(disch:=omega)only[w3_,c99,h4',go_sem,seval]
  refine aL_ (fun n t h=>∃k:Nat,t 0=.list 0 1 (xs.map ah_)∧t 3=.val (.int .i64 k)∧n=xs.length-k∧k≤xs.length∧(xs.all eh_=(xs.drop k).all eh_)) (xs.length) ?_ ?_
  ·exact⟨0,rfl,rfl,rfl,Nat.zero_le _,rfl⟩
  ·rintro J hJ n t h ⟨k,t0,k3,rfl,hk,hS⟩
   by_cases hlt:k<xs.length
   ·skip
    rw[wq_ eh_ xs k hlt]at hS
    simp(disch:=omega)only[t0,k3,hlt,ah_,go_sem,seval]
    repeat' (first
     | exact ak_ _ _
     | exact⟨xs.length-(k+1),by omega,hJ _ _ _ ⟨k+1,by simp[upd,t0],by simp[upd],rfl,by omega,by rw[hS];first|(simp only[*,Bool.true_and];done)|simp[*]⟩⟩
     | (refine ao_ ?_;rw[hS0,hS];first|(simp only[*,Bool.false_and];done)|(simp[*];done))
     | (refine ao_ ?_;rw[hS0,hS,su_ _ _ _ (by omega)])
     | simp(disch:=omega)only[k3,go_sem,seval]
     | (refine PureCall.call (fs_ _ _) ?_)
     | (refine PureCall.q (fs_ _ _) ?_)
     | ((first|(apply a3_;assumption)|(apply a4_;assumption)|(apply bm_;assumption)|(apply bl_;assumption));intro hb;try simp only[hb])
     | ((first|apply aG_|apply aF_)<;>intro hb<;>(try simp only[hb])<;>(first|have hp:=bF_ hb|have hp:=bK_ hb|have hp:=bL_ hb|have hp:=bG_ hb|skip)))
   ·skip
    simp(disch:=omega)only[t0,k3,hlt,go_sem,seval]
    repeat' (first
     | exact ak_ _ _
     | (refine ao_ ?_;rw[hS0,hS];first|(simp only[*,Bool.and_true,Bool.true_and,Bool.and_false,Bool.false_and,Bool.or_true,Bool.true_or,Bool.or_false,Bool.false_or,Bool.not_true,Bool.not_false,decide_true,decide_false,Bool.and_self,Bool.or_self];done)|(simp[*];done))
     | (refine ao_ ?_;rw[hS0,hS,su_ _ _ _ (by omega)])
     | simp(disch:=omega)only[t0,k3,go_sem,seval]
     | (refine PureCall.call (fs_ _ _) ?_)
     | (refine PureCall.q (fs_ _ _) ?_)
     | ((first|(apply a3_;assumption)|(apply a4_;assumption)|(apply bm_;assumption)|(apply bl_;assumption));intro hb;try simp only[hb])
     | ((first|apply aG_|apply aF_)<;>intro hb<;>(try simp only[hb])<;>(first|have hp:=bF_ hb|have hp:=bK_ hb|have hp:=bL_ hb|have hp:=bG_ hb|skip)))
 ·have h4':((4:Int)<xs.length)=True:=by simp;omega
  simp(disch:=omega)only[w3_,c99,h4',go_sem,seval]
  exact ao_ (by simp[ce_,h4])
def c98:LC :=
 .q [.o [.f 2],.o [.m 3 0,.c1 4 99 3,.m 2 4],.ret]
def Bs_:LF:=⟨1,5,c98,[.tmp 2]⟩
theorem CS_:az_ prog Tryz.f98 Bs_:=at_
theorem i1_(xs:List ByteArray)(hx:xs.length≤1048576)(h:List Row):PureCall prog 98 [.list 0 1 (xs.map ah_)] h (.val (.bool (ce_ xs))):=by
 refine ar_ mixed Tryz.func98 CS_ rfl rfl ?_ h
 simp(disch:=omega)only[Bs_,c98,go_sem,seval]
 repeat' (first
  | exact ak_ _ _
  | simp(disch:=omega)only[go_sem,↓reduceIte]
  | (refine PureCall.call (gd_ _ hx _) ?_)
  | (refine PureCall.q (gd_ _ hx _) ?_)
  | ((first|(apply a3_;assumption)|(apply a4_;assumption)|(apply bm_;assumption)|(apply bl_;assumption));intro hb;try simp only[hb])
  | ((first|apply aG_|apply aF_)<;>intro hb<;>(try simp only[hb])<;>(first|have hp:=bF_ hb|have hp:=bK_ hb|have hp:=bL_ hb|have hp:=bG_ hb|skip)))
def dh_:List Int→Nat→Bool
 | [],_=>true
 | b::bs,k=>(d3_ b||(decide (k=0)&&decide (b=37))||(!decide (k=0)&&ga_ b))&&dh_ bs (k+1)
def bW_(s:ByteArray):Bool:=decide (1≤(s.size:Int))&&decide ((s.size:Int)≤8)&&dh_ (dJ_ s) 0
theorem fM_(bs:List Int)(k:Nat)(h:k<bs.length):dh_ (bs.drop k) k=((d3_ bs[k]||(decide (k=0)&&decide (bs[k]=37))||(!decide (k=0)&&ga_ bs[k]))&&dh_ (bs.drop (k+1)) (k+1)):=by
 rw[drop_eq_getElem_cons h];rfl
theorem gj_(bs:List Int)(k:Nat)(h:bs.length≤k):dh_ (bs.drop k) k=true:=by
 rw[drop_eq_nil_of_le h];rfl
def BS_:LC :=
 .q [.o [.f 2],.q [.o [.ki 3 0],.block 0 (.loop (.q [.q [.o [.m 5 3,.m 6 0,.s 7 (.lenStr (.tmp 6)),.bb 8 .lss false 5 7],.k 8 .skip (.exit 0)],.block 1 (.q [.o [.m 11 0,.m 12 3,.s 13 (.indexStr (.tmp 11) (.tmp
 12)),.c1 14 160 13,.m 15 14,.gm 16 15 false 3,.g 17 15 false (.bin .eql false (.tmp 16) (.const (.int .i64 0))),.gm 18 15 false 17,.gm 19 18 true 0,.gm 20 18 true 3,.g 21 18 true (.indexStr (.tmp 19) (.tmp 20)),
 .g 22 18 true (.bin .eql false (.tmp 21) (.const (.int .u8 37))),.g 23 15 false (.pick (.tmp 18) (.tmp 22) (.const (.bool false))),.pt 24 15 23,.m 4 24],.o [.m 25 4,.nt 26 25,.m 27 26,.gm 28 27 true 3,.g 29 27
 true (.bin .eql false (.tmp 28) (.const (.int .i64 0))),.gm 30 27 true 29,.gm 31 30 false 0,.gm 32 30 false 3,.g 33 30 false (.indexStr (.tmp 31) (.tmp 32)),.gc 34 30 false 161 33,.gu 35 30 false 34,.g 36 27 true
 (.pick (.tmp 30) (.const (.bool true)) (.tmp 35)),.pf 37 27 36],.k 37 (.q [.o [.f 2],.ret]) .skip]),.o [.m 9 3,.bk 10 .add false 9 1,.m 3 10]]))],.o [.m 38 0,.s 39 (.lenStr (.tmp 38)),.bk 40 .geq false 39 1,.m
 41 40,.gm 42 41 true 0,.g 43 41 true (.lenStr (.tmp 42)),.g 44 41 true (.bin .leq false (.tmp 43) (.const (.int .i64 8))),.pf 45 41 44,.m 2 45],.ret]
def xX_:LF:=⟨1,46,BS_,[.tmp 2]⟩
theorem Cy_:az_ prog Tryz.f128 xX_:=at_
theorem nV_(s:ByteArray)(hs:s.size≤1048576)(h:List Row):PureCall prog 128 [.val (.string s)] h (.val (.bool (bW_ s))):=by
 refine ar_ mixed Tryz.func128 Cy_ rfl rfl ?_ h
 have hl:=c4_ s
 simp(disch:=omega)only[xX_,BS_,go_sem]
 refine aL_ (fun n t h=>∃k:Nat,t 0=.val (.string s)∧t 3=.val (.int .i64 k)∧n=s.size-k∧k≤s.size∧(dh_ (dJ_ s) 0=dh_ ((dJ_ s).drop k) k)) (s.size) ?_ ?_
 ·exact⟨0,rfl,rfl,rfl,Nat.zero_le _,rfl⟩
 ·rintro J hJ n t h ⟨k,t0,k3,rfl,hk,hS⟩
  by_cases hlt:k<s.size
  ·skip
   rw[fM_ (dJ_ s) k (by omega)]at hS
   simp(disch:=omega)only[t0,k3,hlt,go_sem,seval]
   repeat' (first
    | exact ak_ _ _
    | exact⟨s.size-(k+1),by omega,hJ _ _ _ ⟨k+1,by simp[upd,t0],by simp[upd],rfl,by omega,by rw[hS];first|(simp only[*,Bool.true_and,Bool.false_and,Bool.or_true,Bool.true_or,Bool.or_false,Bool.not_true,Bool.not_false,Bool.and_self,Bool.or_self];done)|simp[*]⟩⟩
    | (refine ao_ ?_;simp only[bW_];rw[hS];first|(simp only[*,Bool.and_false,Bool.false_and,Bool.not_true,Bool.not_false,Bool.or_self];done)|(simp[*];done))
    | (refine ao_ ?_;rw[gj_ _ _ (by omega)]at hS;simp only[bW_];rw[hS];first|(simp only[*,Bool.and_true,Bool.true_and,Bool.and_false,Bool.false_and,Bool.or_true,Bool.true_or,Bool.or_false,Bool.false_or,Bool.not_true,Bool.not_false,decide_true,decide_false,Bool.and_self,Bool.or_self];done)|(simp[*];done))
    | simp(disch:=omega)only[t0,k3,go_sem,seval]
    | (refine PureCall.call (eA_ _ _) ?_)
    | (refine PureCall.q (eA_ _ _) ?_)
    | (refine PureCall.call (eO_ _ _) ?_)
    | (refine PureCall.q (eO_ _ _) ?_)
    | ((first|(apply b0_;assumption)|(apply bY_;assumption)|(apply ck_;assumption)|(apply cj_;assumption));intro hb;try simp only[hb])
    | ((first|(apply a3_;assumption)|(apply a4_;assumption)|(apply bm_;assumption)|(apply bl_;assumption));intro hb;try simp only[hb])
    | ((first|apply a6_|apply bd_|apply aG_|apply aF_)<;>intro hb<;>(try simp only[hb])<;>(first|have hp:=bF_ hb|have hp:=bK_ hb|have hp:=bL_ hb|have hp:=bG_ hb|skip)))
  ·skip
   simp(disch:=omega)only[t0,k3,hlt,go_sem,seval]
   repeat' (first
    | exact ak_ _ _
    | (refine ao_ ?_;simp only[bW_];rw[hS];first|(simp only[*,Bool.true_and,Bool.false_and,decide_true,decide_false];done)|(simp[*];done))
    | (refine ao_ ?_;rw[gj_ _ _ (by omega)]at hS;simp only[bW_];rw[hS];first|(simp only[*,Bool.and_true,Bool.true_and,decide_true];done)|(simp[*];done))
    | simp(disch:=omega)only[t0,go_sem,seval]
    | (refine PureCall.call (eA_ _ _) ?_)
    | (refine PureCall.q (eA_ _ _) ?_)
    | (refine PureCall.call (eO_ _ _) ?_)
    | (refine PureCall.q (eO_ _ _) ?_)
    | ((first|(apply b0_;assumption)|(apply bY_;assumption)|(apply ck_;assumption)|(apply cj_;assumption));intro hb;try simp only[hb])
    | ((first|(apply a3_;assumption)|(apply a4_;assumption)|(apply bm_;assumption)|(apply bl_;assumption));intro hb;try simp only[hb])
    | ((first|apply a6_|apply bd_|apply aG_|apply aF_)<;>intro hb<;>(try simp only[hb])<;>(first|have hp:=bF_ hb|have hp:=bK_ hb|have hp:=bL_ hb|have hp:=bG_ hb|skip)))
theorem tb_{s:ByteArray}(h3:0<s.size)(h4:d3_ ((dJ_ s)[0]'(by rw[c4_];exact h3))=false)(h5:decide (((dJ_ s)[0]'(by rw[c4_];exact h3))=37)=false):bW_ s=false:=by
 have h6:=fM_ (dJ_ s) 0 (by rw[c4_];exact h3)
 rw[drop_zero]at h6
 simp only[bW_,h6,h4,h5];simp
theorem ra_{s:ByteArray}(h1:decide ((s.size:Int)<1)=false)(h2:decide (8<(s.size:Int))=false)(h3:0<s.size)(h4:d3_ ((dJ_ s)[0]'(by rw[c4_];exact h3))=true∨((dJ_ s)[0]'(by rw[c4_];exact h3))=37):bW_ s=dh_ ((dJ_ s).drop 1) 1:=by
 have h5:=fM_ (dJ_ s) 0 (by rw[c4_];exact h3)
 rw[drop_zero]at h5
 have h6:=of_decide_eq_false h1
 have h7:=of_decide_eq_false h2
 have e1:decide (1≤(s.size:Int))=true:=by simp;omega
 have e2:decide ((s.size:Int)≤8)=true:=by simp;omega
 simp only[bW_,e1,e2,h5,Bool.true_and]
 rcases h4 with h4|h4<;>simp[h4]
def te_:LC :=
 .q [.o [.f 2],.q [.o [.m 4 0,.s 5 (.lenStr (.tmp 4)),.bk 6 .lss false 5 1,.m 7 6,.gm 8 7 false 0,.g 9 7 false (.lenStr (.tmp 8)),.g 10 7 false (.bin .gtr false (.tmp 9) (.const (.int .i64 8))),.pt 11 7 10,.m 12
 11,.gm 13 12 false 0,.g 14 12 false (.indexStr (.tmp 13) (.const (.int .i64 0))),.gc 15 12 false 190 14,.gu 16 12 false 15,.gm 17 12 false 16,.gm 18 17 true 0,.g 19 17 true (.indexStr (.tmp 18) (.const (.int .i64
 0))),.g 20 17 true (.bin .neq false (.tmp 19) (.const (.int .u8 37))),.g 21 12 false (.pick (.tmp 17) (.tmp 20) (.const (.bool false))),.pt 22 12 21],.k 22 (.q [.o [.f 2],.ret]) .skip],.q [.o [.ki 3 1],.block 0
 (.loop (.q [.q [.o [.m 23 3,.m 24 0,.s 25 (.lenStr (.tmp 24)),.bb 26 .lss false 23 25],.k 26 .skip (.exit 0)],.block 1 (.q [.o [.m 29 0,.m 30 3,.s 31 (.indexStr (.tmp 29) (.tmp 30)),.c1 32 190 31,.nt 33 32,.m
 34 33,.gm 35 34 true 0,.gm 36 34 true 3,.g 37 34 true (.indexStr (.tmp 35) (.tmp 36)),.gc 38 34 true 191 37,.gu 39 34 true 38,.pf 40 34 39],.k 40 (.q [.o [.f 2],.ret]) .skip]),.o [.m 27 3,.bk 28 .add false 27
 1,.m 3 28]]))],.o [.t 2],.ret]
def pU_:LF:=⟨1,41,te_,[.tmp 2]⟩
theorem Bc_:az_ prog Tryz.f148 pU_:=at_
theorem it_(s:ByteArray)(hs:s.size≤1048576)(h:List Row):PureCall prog 148 [.val (.string s)] h (.val (.bool (bW_ s))):=by
 refine ar_ mixed Tryz.func148 Bc_ rfl rfl ?_ h
 have hl:=c4_ s
 by_cases h0:(s.size:Int)<1
 ·simp(disch:=omega)only[pU_,te_,h0,go_sem,seval]
  have h9:¬ (1≤(s.size:Int)):=by omega
  exact ao_ (by simp[bW_,h9])
 by_cases h8:8<(s.size:Int)
 ·simp(disch:=omega)only[pU_,te_,h0,h8,go_sem,seval]
  have h9:¬ ((s.size:Int)≤8):=by omega
  exact ao_ (by simp[bW_,h9])
 have hpos:0<s.size:=by omega
 have hle:(dJ_ s)[0]?=some ((dJ_ s)[0]'(by omega)):=getElem?_eq_getElem (by omega)
 simp(disch:=omega)only[pU_,te_,h0,h8,go_sem,seval]
 repeat' (first
  | exact ak_ _ _
  | (refine ao_ ?_;apply Eq.symm;apply tb_ hpos<;>assumption)
  | (
   have hS0:bW_ s=dh_ ((dJ_ s).drop 1) 1:=ra_ (by simp;omega) (by simp;omega) hpos (by simp_all)
   refine aL_ (fun n t h=>∃k:Nat,t 0=.val (.string s)∧t 3=.val (.int .i64 k)∧n=s.size-k∧k≤s.size∧(dh_ ((dJ_ s).drop 1) 1=dh_ ((dJ_ s).drop k) k∧1≤k)) (s.size-1) ?_ ?_
   ·exact⟨1,rfl,rfl,rfl,by omega,⟨rfl,Nat.le_refl _⟩⟩
   ·rintro J hJ n t h ⟨k,t0,k3,rfl,hk,hS⟩
    by_cases hlt:k<s.size
    ·skip
     obtain⟨hS,hk1⟩:=hS
     rw[fM_ (dJ_ s) k (by omega)]at hS
     have hk0:decide (k=0)=false:=by simp;omega
     simp only[hk0,Bool.false_and,Bool.or_false,Bool.not_false,Bool.true_and]at hS
     simp(disch:=omega)only[t0,k3,hlt,go_sem,seval]
     repeat' (first
      | exact ak_ _ _
      | exact⟨s.size-(k+1),by omega,hJ _ _ _ ⟨k+1,by simp[upd,t0],by simp[upd],rfl,by omega,by refine⟨?_,by omega⟩;rw[hS];first|(simp only[*,Bool.true_and,Bool.or_true,Bool.true_or];done)|simp[*]⟩⟩
      | (refine ao_ ?_;rw[hS0,hS];first|(simp only[*,Bool.false_and,Bool.or_self];done)|(simp[*];done))
      | (refine ao_ ?_;rw[hS0,hS.1,gj_ _ _ (by omega)])
      | simp(disch:=omega)only[t0,k3,go_sem,seval]
      | (refine PureCall.call (cU_ _ _) ?_)
      | (refine PureCall.q (cU_ _ _) ?_)
      | (refine PureCall.call (ei_ _ _) ?_)
      | (refine PureCall.q (ei_ _ _) ?_)
      | ((first|(apply b0_;assumption)|(apply bY_;assumption)|(apply ck_;assumption)|(apply cj_;assumption));intro hb;try simp only[hb])
      | ((first|(apply a3_;assumption)|(apply a4_;assumption)|(apply bm_;assumption)|(apply bl_;assumption));intro hb;try simp only[hb])
      | ((first|apply a6_|apply bd_|apply aG_|apply aF_)<;>intro hb<;>(try simp only[hb])<;>(first|have hp:=bF_ hb|have hp:=bK_ hb|have hp:=bL_ hb|have hp:=bG_ hb|skip)))
    ·skip
     simp(disch:=omega)only[t0,k3,hlt,go_sem,seval]
     repeat' (first
      | exact ak_ _ _
      | (refine ao_ ?_;rw[hS0,hS];first|(simp only[*,Bool.and_true,Bool.true_and,Bool.and_false,Bool.false_and,Bool.or_true,Bool.true_or,Bool.or_false,Bool.false_or,Bool.not_true,Bool.not_false,decide_true,decide_false,Bool.and_self,Bool.or_self];done)|(simp[*];done))
      | (refine ao_ ?_;rw[hS0,hS.1,gj_ _ _ (by omega)])
      | simp(disch:=omega)only[t0,k3,go_sem,seval]
      | (refine PureCall.call (cU_ _ _) ?_)
      | (refine PureCall.q (cU_ _ _) ?_)
      | (refine PureCall.call (ei_ _ _) ?_)
      | (refine PureCall.q (ei_ _ _) ?_)
      | ((first|(apply b0_;assumption)|(apply bY_;assumption)|(apply ck_;assumption)|(apply cj_;assumption));intro hb;try simp only[hb])
      | ((first|(apply a3_;assumption)|(apply a4_;assumption)|(apply bm_;assumption)|(apply bl_;assumption));intro hb;try simp only[hb])
      | ((first|apply a6_|apply bd_|apply aG_|apply aF_)<;>intro hb<;>(try simp only[hb])<;>(first|have hp:=bF_ hb|have hp:=bK_ hb|have hp:=bL_ hb|have hp:=bG_ hb|skip))))
  | simp(disch:=omega)only[go_sem,seval]
  | (refine PureCall.call (cU_ _ _) ?_)
  | (refine PureCall.q (cU_ _ _) ?_)
  | ((first|(apply b0_;assumption)|(apply bY_;assumption)|(apply ck_;assumption)|(apply cj_;assumption));intro hb;try simp only[hb])
  | ((first|(apply a3_;assumption)|(apply a4_;assumption)|(apply bm_;assumption)|(apply bl_;assumption));intro hb;try simp only[hb])
  | ((first|apply a6_|apply bd_|apply aG_|apply aF_)<;>intro hb<;>(try simp only[hb])<;>(first|have hp:=bF_ hb|have hp:=bK_ hb|have hp:=bL_ hb|have hp:=bG_ hb|skip)))
def way(n:ByteArray)(s:List ByteArray)(o:ByteArray)(os:List ByteArray):Bool:=decide (n=o)&&(vr_ s os||vr_ os s)
def c97:LC :=
 .q [.o [.f 2],.o [.m 3 0,.c1 4 148 3,.m 2 4],.ret]
def Ck_:LF:=⟨1,5,c97,[.tmp 2]⟩
theorem Dl_:az_ prog Tryz.f97 Ck_:=at_
theorem i2_(s:ByteArray)(hs:s.size≤1048576)(h:List Row):PureCall prog 97 [.val (.string s)] h (.val (.bool (bW_ s))):=by
 refine ar_ mixed Tryz.func97 Dl_ rfl rfl ?_ h
 simp(disch:=omega)only[Ck_,c97,go_sem,seval]
 repeat' (first
  | exact ak_ _ _
  | simp(disch:=omega)only[go_sem,↓reduceIte]
  | (refine PureCall.call (it_ _ hs _) ?_)
  | (refine PureCall.q (it_ _ hs _) ?_)
  | ((first|(apply a3_;assumption)|(apply a4_;assumption)|(apply bm_;assumption)|(apply bl_;assumption));intro hb;try simp only[hb])
  | ((first|apply aG_|apply aF_)<;>intro hb<;>(try simp only[hb])<;>(first|have hp:=bF_ hb|have hp:=bK_ hb|have hp:=bL_ hb|have hp:=bG_ hb|skip)))
end Go.Proofs.YtlcmlgihlojdmaaGreatDoor
