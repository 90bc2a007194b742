/-
 Contracts of functions. Conditions: as each theorem says.
-/
import Derived.Test.YtlcmlgihlojdmaaGreatDoorFnO
import Derived.Test.YtlcmlgihlojdmaaGreatDoorAwC
import Derived.Test.YtlcmlgihlojdmaaGreatDoorPlNum
import Derived.Test.YtlcmlgihlojdmaaGreatDoorPlKey
namespace Go.Proofs.YtlcmlgihlojdmaaGreatDoor
open Tryz (prog)
open List
open Go.AW
set_option linter.unusedVariables false
set_option linter.unusedSimpArgs false
set_option maxRecDepth 4000
abbrev bs(s:ByteArray):List UInt8:=s.data.toList
abbrev bss(xs:List ByteArray):List (List UInt8):=xs.map fun s=>s.data.toList
theorem fl_(s:ByteArray):txt s.data.toList=s:=(kk_ s).symm
theorem eN_(s:ByteArray):s.data.toList.length=s.size:=by rw[Array.length_toList];rfl
theorem zB_(a b:ByteArray):(a.data.toList=b.data.toList)=(a=b):=by
 apply propext;constructor
 ·intro h;rw[←fl_ a,←fl_ b,h]
 ·intro h;rw[h]
theorem lr_(s:ByteArray)(hs:s.size≤1048576)(h:List Row):PureCall prog 215 [.val (.string s)] h (.val (.bool (dI_ s.data.toList))):=by
 have:=mw_ s.data.toList (by rw[eN_];omega) h
 rwa [fl_]at this
theorem nu_(s:ByteArray)(hs:s.size≤1048576)(h:List Row):PureCall prog 216 [.val (.string s)] h (.val (.int .i64 (b3_ s.data.toList))):=by
 have:=jK_ s.data.toList (by rw[eN_];omega) h
 rwa [fl_]at this
def eqS(s t:ByteArray):Bool:=decide (s=t)
def s3_(xs ys:List ByteArray):Bool:=decide (xs.length≤ys.length)&&yg_ eqS xs (ys.take xs.length)
def dX_(b:Int):Bool:=decide (97≤b)&&decide (b≤122)||decide (65≤b)&&decide (b≤90)
def fJ_(b:Int):Bool:=decide (48≤b)&&decide (b≤57)
def dE_(s:ByteArray):Bool:=decide (1≤(s.size:Int))&&decide ((s.size:Int)≤24)
def zs_:LC :=
 .q [.o [.f 2],.o [.m 3 0,.s 4 (.bin .leq false (.const (.int .u8 97)) (.tmp 3)),.m 5 4,.gm 6 5 true 0,.g 7 5 true (.bin .leq false (.tmp 6) (.const (.int .u8 122))),.pf 8 5 7,.m 9 8,.gm 10 9 false 0,.g 11 9
 false (.bin .leq false (.const (.int .u8 65)) (.tmp 10)),.gm 12 9 false 11,.gm 13 12 true 0,.g 14 12 true (.bin .leq false (.tmp 13) (.const (.int .u8 90))),.g 15 9 false (.pick (.tmp 12) (.tmp 14) (.const (.bool
 false))),.pt 16 9 15,.m 2 16],.ret]
def wu_:LF:=⟨1,17,zs_,[.tmp 2]⟩
theorem yF_:aC_ prog Tryz.f160 wu_:=az_
theorem ep_(b:Int)  (h:List Row):PureCall prog 160 [.val (.int .u8 b)] h (.val (.bool (dX_ b))):=by
 refine av_ mixed Tryz.func160 yF_ rfl rfl ?_ h
 simp(disch:=omega)only[wu_,zs_,go_sem,seval]
 repeat' (first
  | exact am_ _ _
  | (refine af_ ?_;first|rfl|(simp only[dX_, *,Bool.true_and,Bool.and_false,Bool.false_and,Bool.true_or,Bool.false_or,decide_true,decide_false,Bool.and_self,Bool.or_self];done)|(simp[dX_, *];done))
  | simp(disch:=omega)only[go_sem,seval]
  | ((first|(apply bz_;assumption)|(apply by_;assumption)|(apply bS_;assumption)|(apply bT_;assumption));intro hb;try simp only[hb])
  | ((first|(apply aT_;assumption)|(apply aR_;assumption)|(apply a6_;assumption)|(apply a7_;assumption));intro hb;try simp only[hb])
  | ((first|apply aQ_|apply aZ_|apply at_|apply as_)<;>intro hb<;>(try simp only[hb])<;>(first|have hp:=br_ hb|have hp:=bn_ hb|have hp:=bq_ hb|have hp:=bp_ hb|skip)))
def zN_:LC :=
 .q [.o [.f 2],.o [.m 3 0,.s 4 (.bin .geq false (.tmp 3) (.const (.int .u8 97))),.m 5 4,.gm 6 5 true 0,.g 7 5 true (.bin .leq false (.tmp 6) (.const (.int .u8 122))),.pf 8 5 7,.m 9 8,.gm 10 9 false 0,.g 11 9
 false (.bin .geq false (.tmp 10) (.const (.int .u8 65))),.gm 12 9 false 11,.gm 13 12 true 0,.g 14 12 true (.bin .leq false (.tmp 13) (.const (.int .u8 90))),.g 15 9 false (.pick (.tmp 12) (.tmp 14) (.const (.bool
 false))),.pt 16 9 15,.m 2 16],.ret]
def wC_:LF:=⟨1,17,zN_,[.tmp 2]⟩
theorem Af_:aC_ prog Tryz.f190 wC_:=az_
theorem cH_(b:Int)  (h:List Row):PureCall prog 190 [.val (.int .u8 b)] h (.val (.bool (dX_ b))):=by
 refine av_ mixed Tryz.func190 Af_ rfl rfl ?_ h
 simp(disch:=omega)only[wC_,zN_,go_sem,seval]
 repeat' (first
  | exact am_ _ _
  | (refine af_ ?_;first|rfl|(simp only[dX_, *,Bool.true_and,Bool.and_false,Bool.false_and,Bool.true_or,Bool.false_or,decide_true,decide_false,Bool.and_self,Bool.or_self];done)|(simp[dX_, *];done))
  | simp(disch:=omega)only[go_sem,seval]
  | ((first|(apply bz_;assumption)|(apply by_;assumption)|(apply bS_;assumption)|(apply bT_;assumption));intro hb;try simp only[hb])
  | ((first|(apply aT_;assumption)|(apply aR_;assumption)|(apply a6_;assumption)|(apply a7_;assumption));intro hb;try simp only[hb])
  | ((first|apply aQ_|apply aZ_|apply at_|apply as_)<;>intro hb<;>(try simp only[hb])<;>(first|have hp:=br_ hb|have hp:=bn_ hb|have hp:=bq_ hb|have hp:=bp_ hb|skip)))
def y1_:LC :=
 .q [.o [.f 2],.o [.m 3 0,.s 4 (.bin .leq false (.const (.int .u8 48)) (.tmp 3)),.m 5 4,.gm 6 5 true 0,.g 7 5 true (.bin .leq false (.tmp 6) (.const (.int .u8 57))),.pf 8 5 7,.m 2 8],.ret]
def wb_:LF:=⟨1,9,y1_,[.tmp 2]⟩
theorem yk_:aC_ prog Tryz.f161 wb_:=az_
theorem eF_(b:Int)  (h:List Row):PureCall prog 161 [.val (.int .u8 b)] h (.val (.bool (fJ_ b))):=by
 refine av_ mixed Tryz.func161 yk_ rfl rfl ?_ h
 simp(disch:=omega)only[wb_,y1_,go_sem,seval]
 repeat' (first
  | exact am_ _ _
  | (refine af_ ?_;first|rfl|(simp only[fJ_, *,Bool.true_and,Bool.false_and,decide_true,decide_false];done)|(simp[fJ_, *];done))
  | simp(disch:=omega)only[go_sem,seval]
  | ((first|(apply bz_;assumption)|(apply by_;assumption)|(apply bS_;assumption)|(apply bT_;assumption));intro hb;try simp only[hb])
  | ((first|(apply aT_;assumption)|(apply aR_;assumption)|(apply a6_;assumption)|(apply a7_;assumption));intro hb;try simp only[hb])
  | ((first|apply aQ_|apply aZ_|apply at_|apply as_)<;>intro hb<;>(try simp only[hb])<;>(first|have hp:=br_ hb|have hp:=bn_ hb|have hp:=bq_ hb|have hp:=bp_ hb|skip)))
theorem d0_(b:Int)  (h:List Row):PureCall prog 191 [.val (.int .u8 b)] h (.val (.bool (fJ_ b))):=by
 refine av_ mixed Tryz.func191 sP_ rfl rfl ?_ h
 simp(disch:=omega)only[sh_,vG_,go_sem,seval]
 repeat' (first
  | exact am_ _ _
  | (refine af_ ?_;first|rfl|(simp only[fJ_, *,Bool.true_and,Bool.false_and,decide_true,decide_false];done)|(simp[fJ_, *];done))
  | simp(disch:=omega)only[go_sem,seval]
  | ((first|(apply bz_;assumption)|(apply by_;assumption)|(apply bS_;assumption)|(apply bT_;assumption));intro hb;try simp only[hb])
  | ((first|(apply aT_;assumption)|(apply aR_;assumption)|(apply a6_;assumption)|(apply a7_;assumption));intro hb;try simp only[hb])
  | ((first|apply aQ_|apply aZ_|apply at_|apply as_)<;>intro hb<;>(try simp only[hb])<;>(first|have hp:=br_ hb|have hp:=bn_ hb|have hp:=bq_ hb|have hp:=bp_ hb|skip)))
def yY_:LC :=
 .q [.o [.f 2],.o [.m 3 0,.s 4 (.lenStr (.tmp 3)),.bk 5 .geq false 4 1,.m 6 5,.gm 7 6 true 0,.g 8 6 true (.lenStr (.tmp 7)),.g 9 6 true (.bin .leq false (.tmp 8) (.const (.int .i64 24))),.pf 10 6 9,.m 2 10],
 .ret]
def wh_:LF:=⟨1,11,yY_,[.tmp 2]⟩
theorem z9_:aC_ prog Tryz.f184 wh_:=az_
theorem jE_(s:ByteArray)  (h:List Row):PureCall prog 184 [.val (.string s)] h (.val (.bool (dE_ s))):=by
 refine av_ mixed Tryz.func184 z9_ rfl rfl ?_ h
 simp(disch:=omega)only[wh_,yY_,go_sem,seval]
 repeat' (first
  | exact am_ _ _
  | (refine af_ ?_;first|rfl|(simp only[dE_, *,Bool.true_and,Bool.false_and,decide_true,decide_false];done)|(simp[dE_, *];done))
  | simp(disch:=omega)only[go_sem,seval]
  | ((first|(apply bz_;assumption)|(apply by_;assumption)|(apply bS_;assumption)|(apply bT_;assumption));intro hb;try simp only[hb])
  | ((first|(apply aT_;assumption)|(apply aR_;assumption)|(apply a6_;assumption)|(apply a7_;assumption));intro hb;try simp only[hb])
  | ((first|apply aQ_|apply aZ_|apply at_|apply as_)<;>intro hb<;>(try simp only[hb])<;>(first|have hp:=br_ hb|have hp:=bn_ hb|have hp:=bq_ hb|have hp:=bp_ hb|skip)))
def xN_:LC :=
 .q [.o [.f 2],.o [.m 3 0,.s 4 (.lenStr (.tmp 3)),.bk 5 .geq false 4 1,.m 6 5,.gm 7 6 true 0,.g 8 6 true (.lenStr (.tmp 7)),.g 9 6 true (.bin .leq false (.tmp 8) (.const (.int .i64 24))),.pf 10 6 9,.m 2 10],
 .ret]
def vQ_:LF:=⟨1,11,xN_,[.tmp 2]⟩
theorem z0_:aC_ prog Tryz.f149 vQ_:=az_
theorem e9_(s:ByteArray)  (h:List Row):PureCall prog 149 [.val (.string s)] h (.val (.bool (dE_ s))):=by
 refine av_ mixed Tryz.func149 z0_ rfl rfl ?_ h
 simp(disch:=omega)only[vQ_,xN_,go_sem,seval]
 repeat' (first
  | exact am_ _ _
  | (refine af_ ?_;first|rfl|(simp only[dE_, *,Bool.true_and,Bool.false_and,decide_true,decide_false];done)|(simp[dE_, *];done))
  | simp(disch:=omega)only[go_sem,seval]
  | ((first|(apply bz_;assumption)|(apply by_;assumption)|(apply bS_;assumption)|(apply bT_;assumption));intro hb;try simp only[hb])
  | ((first|(apply aT_;assumption)|(apply aR_;assumption)|(apply a6_;assumption)|(apply a7_;assumption));intro hb;try simp only[hb])
  | ((first|apply aQ_|apply aZ_|apply at_|apply as_)<;>intro hb<;>(try simp only[hb])<;>(first|have hp:=br_ hb|have hp:=bn_ hb|have hp:=bq_ hb|have hp:=bp_ hb|skip)))
def uC_:LC :=
 .q [.o [.ki 4 0],.q [.o [.m 6 0,.ll 7 6,.ki 8 0],.block 0 (.loop (.q [.o [.bb 9 .lss false 8 7],.k 9 .skip (.exit 0),.block 1 (.q [.o [.m 10 8,.m 5 10],.o [.m 11 1,.m 12 0,.m 13 5,.ia 14 1 12 13,.ln 15 14,.s
 16 (.callv (.tmp 11) [.tmp 15])],.k 16 (.q [.o [.m 17 5,.m 4 17],.ret]) .skip]),.o [.bk 18 .add false 8 1,.m 8 18]]))],.o [.s 4 (.mov (.const (.int .i64 (-1))))],.ret]
def se_:LF:=⟨2,19,uC_,[.tmp 4]⟩
theorem tT_:aC_ prog Tryz.f129 se_:=az_
theorem gX_(xs:List ByteArray)(p:ByteArray→Bool)(g:Nat)(hx:xs.length≤1048576)(hc:cB_ prog g=true)(hp:∀x∈xs,∀h,PureCall prog g [.val (.string x)] h (.val (.bool (p x))))(h:List Row) :
 PureCall prog 129 [.list 0 1 (xs.map ak_),.fn g [] []] h (.val (.int .i64 (bR_ p xs 0))):=by
 refine av_ mixed Tryz.func129 tT_ rfl rfl ?_ h
 simp(disch:=omega)only[se_,uC_,go_sem,seval]
 refine a4_ (fun n t h=>∃k:Nat,t 0=.list 0 1 (xs.map ak_)∧t 1=.fn g [] []∧t 6=.list 0 1 (xs.map ak_)∧t 7=.val (.int .i64 xs.length)∧t 8=.val (.int .i64 k)∧n=xs.length-k∧k≤xs.length∧(bR_ p xs 0=bR_ p (xs.drop k) k)) (xs.length) ?_ ?_
 ·exact⟨0,rfl,rfl,rfl,rfl,rfl,rfl,Nat.zero_le _,rfl⟩
 ·rintro J hJ n t h ⟨k,t0,t1,t6,t7,k8,rfl,hk,hS⟩
  by_cases hlt:k<xs.length
  ·skip
   rw[ga_ p xs k hlt]at hS
   simp(disch:=omega)only[t0,t1,t7,k8,hlt,hc,ak_,go_sem,seval]
   repeat' (first
    | exact am_ _ _
    | exact⟨xs.length-(k+1),by omega,hJ _ _ _ ⟨k+1,by simp[upd,t0],by simp[upd,t1],by simp[upd,t6],by simp[upd,t7],by simp[upd],rfl,by omega,by rw[hS];simp[*]⟩⟩
    | (refine aM_ ?_;rw[hS];simp[*];done)
    | (refine aM_ ?_;rw[hS,dl_ _ _ _ (by omega)])
    | simp(disch:=omega)only[k8,go_sem,seval]
    | (refine PureCall.call (hp xs[k] (getElem_mem hlt) _) ?_)
    | (refine PureCall.q (hp xs[k] (getElem_mem hlt) _) ?_)
    | ((first|(apply aT_;assumption)|(apply aR_;assumption)|(apply a6_;assumption)|(apply a7_;assumption));intro hb;try simp only[hb])
    | ((first|apply at_|apply as_)<;>intro hb<;>(try simp only[hb])<;>(first|have hp:=br_ hb|have hp:=bn_ hb|have hp:=bq_ hb|have hp:=bp_ hb|skip)))
  ·skip
   simp(disch:=omega)only[t7,k8,hlt,go_sem,seval]
   repeat' (first
    | exact am_ _ _
    | (refine aM_ ?_;rw[hS];simp[*];done)
    | (refine aM_ ?_;rw[hS,dl_ _ _ _ (by omega)])
    | simp(disch:=omega)only[t0,t1,t6,t7,k8,go_sem,seval]
    | (refine PureCall.call (hp xs[k] (getElem_mem hlt) _) ?_)
    | (refine PureCall.q (hp xs[k] (getElem_mem hlt) _) ?_)
    | ((first|(apply aT_;assumption)|(apply aR_;assumption)|(apply a6_;assumption)|(apply a7_;assumption));intro hb;try simp only[hb])
    | ((first|apply at_|apply as_)<;>intro hb<;>(try simp only[hb])<;>(first|have hp:=br_ hb|have hp:=bn_ hb|have hp:=bq_ hb|have hp:=bp_ hb|skip)))
def c77:LC :=
 .q [.o [.f 4],.o [.m 5 0,.m 6 1,.c2 7 129 5 6,.bk 8 .geq false 7 0,.m 4 8],.ret]
def uo_:LF:=⟨2,9,c77,[.tmp 4]⟩
theorem v8_:aC_ prog Tryz.f77 uo_:=az_
theorem cc_(xs:List ByteArray)(p:ByteArray→Bool)(g:Nat)(hx:xs.length≤1048576)(hc:cB_ prog g=true)(hp:∀x∈xs,∀h,PureCall prog g [.val (.string x)] h (.val (.bool (p x))))(h:List Row) :
 PureCall prog 77 [.list 0 1 (xs.map ak_),.fn g [] []] h (.val (.bool (xs.any p))):=by
 refine av_ mixed Tryz.func77 v8_ rfl rfl ?_ h
 simp(disch:=omega)only[uo_,c77,go_sem,seval]
 refine PureCall.call (gX_ xs p g hx hc hp _) ?_
 simp(disch:=omega)only[go_sem,↓reduceIte]
 exact af_ (ir_ p xs)
def bM_(xs:List ByteArray):Bool:=decide ((xs.length:Int)≤4)&&xs.all dE_
def yd_:LC :=
 .q [.o [.f 2],.o [.m 3 0,.c1 4 184 3,.nt 5 4,.m 2 5],.ret]
def vX_:LF:=⟨1,6,yd_,[.tmp 2]⟩
theorem yR_:aC_ prog Tryz.f183 vX_:=az_
theorem g4_(s:ByteArray)  (h:List Row):PureCall prog 183 [.val (.string s)] h (.val (.bool (!dE_ s))):=by
 refine av_ mixed Tryz.func183 yR_ rfl rfl ?_ h
 simp(disch:=omega)only[vX_,yd_,go_sem,seval]
 repeat' (first
  | exact am_ _ _
  | simp(disch:=omega)only[go_sem,↓reduceIte]
  | (refine PureCall.call (jE_ _ _) ?_)
  | (refine PureCall.q (jE_ _ _) ?_)
  | ((first|(apply aT_;assumption)|(apply aR_;assumption)|(apply a6_;assumption)|(apply a7_;assumption));intro hb;try simp only[hb])
  | ((first|apply at_|apply as_)<;>intro hb<;>(try simp only[hb])<;>(first|have hp:=br_ hb|have hp:=bn_ hb|have hp:=bq_ hb|have hp:=bp_ hb|skip)))
theorem hu_{α:Type}(p:α→Bool)(xs:List α):(!xs.any fun x=>!p x)=xs.all p:=by
 induction xs with
 | nil=>rfl
 | cons x xs ih=>simp only[any_cons,all_cons,Bool.not_or,Bool.not_not,ih]
def z8_:LC :=
 .q [.o [.f 2],.o [.m 3 0,.ll 4 3,.bk 5 .leq false 4 4,.m 6 5,.gm 7 6 true 0,.g 8 6 true (.call 77 [.tmp 7,.func 183]),.gu 9 6 true 8,.pf 10 6 9,.m 2 10],.ret]
def vY_:LF:=⟨1,11,z8_,[.tmp 2]⟩
theorem y2_:aC_ prog Tryz.f144 vY_:=az_
theorem gm_(xs:List ByteArray)(hx:xs.length≤1048576)(h:List Row):PureCall prog 144 [.list 0 1 (xs.map ak_)] h (.val (.bool (bM_ xs))):=by
 refine av_ mixed Tryz.func144 y2_ rfl rfl ?_ h
 simp(disch:=omega)only[vY_,z8_,go_sem,seval]
 repeat' (first
  | exact am_ _ _
  | (refine af_ ?_;simp only[hu_,bM_, *,Bool.true_and,Bool.false_and,decide_true,decide_false];done)
  | (refine af_ ?_;first|rfl|(simp only[bM_, *,Bool.and_true,Bool.true_and,Bool.and_false,Bool.false_and,Bool.or_true,Bool.true_or,Bool.or_false,Bool.false_or,Bool.not_true,Bool.not_false,decide_true,decide_false,Bool.and_self,Bool.or_self];done)|(simp[bM_, *];done))
  | simp(disch:=omega)only[go_sem,seval]
  | (refine PureCall.call (cc_ _ (fun s=>!dE_ s) 183 hx (by kernel_rfl) (fun x _ h=>g4_ x h) _) ?_)
  | (refine PureCall.q (cc_ _ (fun s=>!dE_ s) 183 hx (by kernel_rfl) (fun x _ h=>g4_ x h) _) ?_)
  | ((first|(apply bz_;assumption)|(apply by_;assumption)|(apply bS_;assumption)|(apply bT_;assumption));intro hb;try simp only[hb])
  | ((first|(apply aT_;assumption)|(apply aR_;assumption)|(apply a6_;assumption)|(apply a7_;assumption));intro hb;try simp only[hb])
  | ((first|apply aQ_|apply aZ_|apply at_|apply as_)<;>intro hb<;>(try simp only[hb])<;>(first|have hp:=br_ hb|have hp:=bn_ hb|have hp:=bq_ hb|have hp:=bp_ hb|skip)))
def c99:LC :=
 .q [.o [.f 2],.q [.o [.m 4 0,.ll 5 4,.bk 6 .gtr false 5 4],.k 6 (.q [.o [.f 2],.ret]) .skip],.q [.o [.ki 3 0],.block 0 (.loop (.q [.q [.o [.m 7 3,.m 8 0,.ll 9 8,.bb 10 .lss false 7 9],.k 10 .skip (.exit 0)],
 .block 1 (.q [.o [.m 13 0,.m 14 3,.ia 15 1 13 14,.ln 16 15,.c1 17 149 16,.nt 18 17],.k 18 (.q [.o [.f 2],.ret]) .skip]),.o [.m 11 3,.bk 12 .add false 11 1,.m 3 12]]))],.o [.t 2],.ret]
def t2_:LF:=⟨1,19,c99,[.tmp 2]⟩
theorem Aw_:aC_ prog Tryz.f99 t2_:=az_
theorem dM_(xs:List ByteArray)(hx:xs.length≤1048576)(h:List Row):PureCall prog 99 [.list 0 1 (xs.map ak_)] h (.val (.bool (bM_ xs))):=by
 refine av_ mixed Tryz.func99 Aw_ rfl rfl ?_ h
 by_cases h4:(xs.length:Int)≤4
 ·have h4':((4:Int)<xs.length)=False:=by simp;omega
  have hS0:bM_ xs=xs.all dE_:=by simp[bM_,h4]
  simp(disch:=omega)only[t2_,c99,h4',go_sem,seval]
  refine a4_ (fun n t h=>∃k:Nat,t 0=.list 0 1 (xs.map ak_)∧t 3=.val (.int .i64 k)∧n=xs.length-k∧k≤xs.length∧(xs.all dE_=(xs.drop k).all dE_)) (xs.length) ?_ ?_
  ·exact⟨0,rfl,rfl,rfl,Nat.zero_le _,rfl⟩
  ·rintro J hJ n t h ⟨k,t0,k3,rfl,hk,hS⟩
   by_cases hlt:k<xs.length
   ·skip
    rw[uV_ dE_ xs k hlt]at hS
    simp(disch:=omega)only[t0,k3,hlt,ak_,go_sem,seval]
    repeat' (first
     | exact am_ _ _
     | exact⟨xs.length-(k+1),by omega,hJ _ _ _ ⟨k+1,by simp[upd,t0],by simp[upd],rfl,by omega,by rw[hS];first|(simp only[*,Bool.true_and];done)|simp[*]⟩⟩
     | (refine af_ ?_;rw[hS0,hS];first|(simp only[*,Bool.false_and];done)|(simp[*];done))
     | (refine af_ ?_;rw[hS0,hS,rh_ _ _ _ (by omega)])
     | simp(disch:=omega)only[k3,go_sem,seval]
     | (refine PureCall.call (e9_ _ _) ?_)
     | (refine PureCall.q (e9_ _ _) ?_)
     | ((first|(apply aT_;assumption)|(apply aR_;assumption)|(apply a6_;assumption)|(apply a7_;assumption));intro hb;try simp only[hb])
     | ((first|apply at_|apply as_)<;>intro hb<;>(try simp only[hb])<;>(first|have hp:=br_ hb|have hp:=bn_ hb|have hp:=bq_ hb|have hp:=bp_ hb|skip)))
   ·skip
    simp(disch:=omega)only[t0,k3,hlt,go_sem,seval]
    repeat' (first
     | exact am_ _ _
     | (refine af_ ?_;rw[hS0,hS];first|(simp only[*,Bool.and_true,Bool.true_and,Bool.and_false,Bool.false_and,Bool.or_true,Bool.true_or,Bool.or_false,Bool.false_or,Bool.not_true,Bool.not_false,decide_true,decide_false,Bool.and_self,Bool.or_self];done)|(simp[*];done))
     | (refine af_ ?_;rw[hS0,hS,rh_ _ _ _ (by omega)])
     | simp(disch:=omega)only[t0,k3,go_sem,seval]
     | (refine PureCall.call (e9_ _ _) ?_)
     | (refine PureCall.q (e9_ _ _) ?_)
     | ((first|(apply aT_;assumption)|(apply aR_;assumption)|(apply a6_;assumption)|(apply a7_;assumption));intro hb;try simp only[hb])
     | ((first|apply at_|apply as_)<;>intro hb<;>(try simp only[hb])<;>(first|have hp:=br_ hb|have hp:=bn_ hb|have hp:=bq_ hb|have hp:=bp_ hb|skip)))
 ·have h4':((4:Int)<xs.length)=True:=by simp;omega
  simp(disch:=omega)only[t2_,c99,h4',go_sem,seval]
  exact af_ (by simp[bM_,h4])
def c98:LC :=
 .q [.o [.f 2],.o [.m 3 0,.c1 4 99 3,.m 2 4],.ret]
def yK_:LF:=⟨1,5,c98,[.tmp 2]⟩
theorem AB_:aC_ prog Tryz.f98 yK_:=az_
theorem fd_(xs:List ByteArray)(hx:xs.length≤1048576)(h:List Row):PureCall prog 98 [.list 0 1 (xs.map ak_)] h (.val (.bool (bM_ xs))):=by
 refine av_ mixed Tryz.func98 AB_ rfl rfl ?_ h
 simp(disch:=omega)only[yK_,c98,go_sem,seval]
 repeat' (first
  | exact am_ _ _
  | simp(disch:=omega)only[go_sem,↓reduceIte]
  | (refine PureCall.call (dM_ _ hx _) ?_)
  | (refine PureCall.q (dM_ _ hx _) ?_)
  | ((first|(apply aT_;assumption)|(apply aR_;assumption)|(apply a6_;assumption)|(apply a7_;assumption));intro hb;try simp only[hb])
  | ((first|apply at_|apply as_)<;>intro hb<;>(try simp only[hb])<;>(first|have hp:=br_ hb|have hp:=bn_ hb|have hp:=bq_ hb|have hp:=bp_ hb|skip)))
def c9_:List Int→Nat→Bool
 | [],_=>true
 | b::bs,k=>(dX_ b||(decide (k=0)&&decide (b=37))||(!decide (k=0)&&fJ_ b))&&c9_ bs (k+1)
def bF_(s:ByteArray):Bool:=decide (1≤(s.size:Int))&&decide ((s.size:Int)≤8)&&c9_ (dC_ s) 0
theorem fz_(bs:List Int)(k:Nat)(h:k<bs.length):c9_ (bs.drop k) k=((dX_ bs[k]||(decide (k=0)&&decide (bs[k]=37))||(!decide (k=0)&&fJ_ bs[k]))&&c9_ (bs.drop (k+1)) (k+1)):=by
 rw[drop_eq_getElem_cons h];rfl
theorem f9_(bs:List Int)(k:Nat)(h:bs.length≤k):c9_ (bs.drop k) k=true:=by
 rw[drop_eq_nil_of_le h];rfl
def Ai_:LC :=
 .q [.o [.f 2],.q [.o [.ki 3 0],.block 0 (.loop (.q [.q [.o [.m 5 3,.m 6 0,.s 7 (.lenStr (.tmp 6)),.bb 8 .lss false 5 7],.k 8 .skip (.exit 0)],.block 1 (.q [.o [.m 11 0,.m 12 3,.s 13 (.indexStr (.tmp 11) (.tmp
 12)),.c1 14 160 13,.m 15 14,.gm 16 15 false 3,.g 17 15 false (.bin .eql false (.tmp 16) (.const (.int .i64 0))),.gm 18 15 false 17,.gm 19 18 true 0,.gm 20 18 true 3,.g 21 18 true (.indexStr (.tmp 19) (.tmp 20)),
 .g 22 18 true (.bin .eql false (.tmp 21) (.const (.int .u8 37))),.g 23 15 false (.pick (.tmp 18) (.tmp 22) (.const (.bool false))),.pt 24 15 23,.m 4 24],.o [.m 25 4,.nt 26 25,.m 27 26,.gm 28 27 true 3,.g 29 27
 true (.bin .eql false (.tmp 28) (.const (.int .i64 0))),.gm 30 27 true 29,.gm 31 30 false 0,.gm 32 30 false 3,.g 33 30 false (.indexStr (.tmp 31) (.tmp 32)),.gc 34 30 false 161 33,.gu 35 30 false 34,.g 36 27 true
 (.pick (.tmp 30) (.const (.bool true)) (.tmp 35)),.pf 37 27 36],.k 37 (.q [.o [.f 2],.ret]) .skip]),.o [.m 9 3,.bk 10 .add false 9 1,.m 3 10]]))],.o [.m 38 0,.s 39 (.lenStr (.tmp 38)),.bk 40 .geq false 39 1,.m
 41 40,.gm 42 41 true 0,.g 43 41 true (.lenStr (.tmp 42)),.g 44 41 true (.bin .leq false (.tmp 43) (.const (.int .i64 8))),.pf 45 41 44,.m 2 45],.ret]
def wd_:LF:=⟨1,46,Ai_,[.tmp 2]⟩
theorem zH_:aC_ prog Tryz.f128 wd_:=az_
theorem nr_(s:ByteArray)(hs:s.size≤1048576)(h:List Row):PureCall prog 128 [.val (.string s)] h (.val (.bool (bF_ s))):=by
 refine av_ mixed Tryz.func128 zH_ rfl rfl ?_ h
 have hl:=cX_ s
 simp(disch:=omega)only[wd_,Ai_,go_sem]
 refine a4_ (fun n t h=>∃k:Nat,t 0=.val (.string s)∧t 3=.val (.int .i64 k)∧n=s.size-k∧k≤s.size∧(c9_ (dC_ s) 0=c9_ ((dC_ s).drop k) k)) (s.size) ?_ ?_
 ·exact⟨0,rfl,rfl,rfl,Nat.zero_le _,rfl⟩
 ·rintro J hJ n t h ⟨k,t0,k3,rfl,hk,hS⟩
  by_cases hlt:k<s.size
  ·skip
   rw[fz_ (dC_ s) k (by omega)]at hS
   simp(disch:=omega)only[t0,k3,hlt,go_sem,seval]
   repeat' (first
    | exact am_ _ _
    | exact⟨s.size-(k+1),by omega,hJ _ _ _ ⟨k+1,by simp[upd,t0],by simp[upd],rfl,by omega,by rw[hS];first|(simp only[*,Bool.true_and,Bool.false_and,Bool.or_true,Bool.true_or,Bool.or_false,Bool.not_true,Bool.not_false,Bool.and_self,Bool.or_self];done)|simp[*]⟩⟩
    | (refine af_ ?_;simp only[bF_];rw[hS];first|(simp only[*,Bool.and_false,Bool.false_and,Bool.not_true,Bool.not_false,Bool.or_self];done)|(simp[*];done))
    | (refine af_ ?_;rw[f9_ _ _ (by omega)]at hS;simp only[bF_];rw[hS];first|(simp only[*,Bool.and_true,Bool.true_and,Bool.and_false,Bool.false_and,Bool.or_true,Bool.true_or,Bool.or_false,Bool.false_or,Bool.not_true,Bool.not_false,decide_true,decide_false,Bool.and_self,Bool.or_self];done)|(simp[*];done))
    | simp(disch:=omega)only[t0,k3,go_sem,seval]
    | (refine PureCall.call (ep_ _ _) ?_)
    | (refine PureCall.q (ep_ _ _) ?_)
    | (refine PureCall.call (eF_ _ _) ?_)
    | (refine PureCall.q (eF_ _ _) ?_)
    | ((first|(apply bz_;assumption)|(apply by_;assumption)|(apply bS_;assumption)|(apply bT_;assumption));intro hb;try simp only[hb])
    | ((first|(apply aT_;assumption)|(apply aR_;assumption)|(apply a6_;assumption)|(apply a7_;assumption));intro hb;try simp only[hb])
    | ((first|apply aQ_|apply aZ_|apply at_|apply as_)<;>intro hb<;>(try simp only[hb])<;>(first|have hp:=br_ hb|have hp:=bn_ hb|have hp:=bq_ hb|have hp:=bp_ hb|skip)))
  ·skip
   simp(disch:=omega)only[t0,k3,hlt,go_sem,seval]
   repeat' (first
    | exact am_ _ _
    | (refine af_ ?_;simp only[bF_];rw[hS];first|(simp only[*,Bool.true_and,Bool.false_and,decide_true,decide_false];done)|(simp[*];done))
    | (refine af_ ?_;rw[f9_ _ _ (by omega)]at hS;simp only[bF_];rw[hS];first|(simp only[*,Bool.and_true,Bool.true_and,decide_true];done)|(simp[*];done))
    | simp(disch:=omega)only[t0,go_sem,seval]
    | (refine PureCall.call (ep_ _ _) ?_)
    | (refine PureCall.q (ep_ _ _) ?_)
    | (refine PureCall.call (eF_ _ _) ?_)
    | (refine PureCall.q (eF_ _ _) ?_)
    | ((first|(apply bz_;assumption)|(apply by_;assumption)|(apply bS_;assumption)|(apply bT_;assumption));intro hb;try simp only[hb])
    | ((first|(apply aT_;assumption)|(apply aR_;assumption)|(apply a6_;assumption)|(apply a7_;assumption));intro hb;try simp only[hb])
    | ((first|apply aQ_|apply aZ_|apply at_|apply as_)<;>intro hb<;>(try simp only[hb])<;>(first|have hp:=br_ hb|have hp:=bn_ hb|have hp:=bq_ hb|have hp:=bp_ hb|skip)))
theorem sA_{s:ByteArray}(h3:0<s.size)(h4:dX_ ((dC_ s)[0]'(by rw[cX_];exact h3))=false)(h5:decide (((dC_ s)[0]'(by rw[cX_];exact h3))=37)=false):bF_ s=false:=by
 have h6:=fz_ (dC_ s) 0 (by rw[cX_];exact h3)
 rw[drop_zero]at h6
 simp only[bF_,h6,h4,h5];simp
theorem qg_{s:ByteArray}(h1:decide ((s.size:Int)<1)=false)(h2:decide (8<(s.size:Int))=false)(h3:0<s.size)(h4:dX_ ((dC_ s)[0]'(by rw[cX_];exact h3))=true∨((dC_ s)[0]'(by rw[cX_];exact h3))=37):bF_ s=c9_ ((dC_ s).drop 1) 1:=by
 have h5:=fz_ (dC_ s) 0 (by rw[cX_];exact h3)
 rw[drop_zero]at h5
 have h6:=of_decide_eq_false h1
 have h7:=of_decide_eq_false h2
 have e1:decide (1≤(s.size:Int))=true:=by simp;omega
 have e2:decide ((s.size:Int)≤8)=true:=by simp;omega
 simp only[bF_,e1,e2,h5,Bool.true_and]
 rcases h4 with h4|h4<;>simp[h4]
def rH_:LC :=
 .q [.o [.f 2],.q [.o [.m 4 0,.s 5 (.lenStr (.tmp 4)),.bk 6 .lss false 5 1,.m 7 6,.gm 8 7 false 0,.g 9 7 false (.lenStr (.tmp 8)),.g 10 7 false (.bin .gtr false (.tmp 9) (.const (.int .i64 8))),.pt 11 7 10,.m 12
 11,.gm 13 12 false 0,.g 14 12 false (.indexStr (.tmp 13) (.const (.int .i64 0))),.gc 15 12 false 190 14,.gu 16 12 false 15,.gm 17 12 false 16,.gm 18 17 true 0,.g 19 17 true (.indexStr (.tmp 18) (.const (.int .i64
 0))),.g 20 17 true (.bin .neq false (.tmp 19) (.const (.int .u8 37))),.g 21 12 false (.pick (.tmp 17) (.tmp 20) (.const (.bool false))),.pt 22 12 21],.k 22 (.q [.o [.f 2],.ret]) .skip],.q [.o [.ki 3 1],.block 0
 (.loop (.q [.q [.o [.m 23 3,.m 24 0,.s 25 (.lenStr (.tmp 24)),.bb 26 .lss false 23 25],.k 26 .skip (.exit 0)],.block 1 (.q [.o [.m 29 0,.m 30 3,.s 31 (.indexStr (.tmp 29) (.tmp 30)),.c1 32 190 31,.nt 33 32,.m
 34 33,.gm 35 34 true 0,.gm 36 34 true 3,.g 37 34 true (.indexStr (.tmp 35) (.tmp 36)),.gc 38 34 true 191 37,.gu 39 34 true 38,.pf 40 34 39],.k 40 (.q [.o [.f 2],.ret]) .skip]),.o [.m 27 3,.bk 28 .add false 27
 1,.m 3 28]]))],.o [.t 2],.ret]
def oU_:LF:=⟨1,41,rH_,[.tmp 2]⟩
theorem zp_:aC_ prog Tryz.f148 oU_:=az_
theorem h3_(s:ByteArray)(hs:s.size≤1048576)(h:List Row):PureCall prog 148 [.val (.string s)] h (.val (.bool (bF_ s))):=by
 refine av_ mixed Tryz.func148 zp_ rfl rfl ?_ h
 have hl:=cX_ s
 by_cases h0:(s.size:Int)<1
 ·simp(disch:=omega)only[oU_,rH_,h0,go_sem,seval]
  have h9:¬ (1≤(s.size:Int)):=by omega
  exact af_ (by simp[bF_,h9])
 by_cases h8:8<(s.size:Int)
 ·simp(disch:=omega)only[oU_,rH_,h0,h8,go_sem,seval]
  have h9:¬ ((s.size:Int)≤8):=by omega
  exact af_ (by simp[bF_,h9])
 have hpos:0<s.size:=by omega
 have hle:(dC_ s)[0]?=some ((dC_ s)[0]'(by omega)):=getElem?_eq_getElem (by omega)
 simp(disch:=omega)only[oU_,rH_,h0,h8,go_sem,seval]
 repeat' (first
  | exact am_ _ _
  | (refine af_ ?_;apply Eq.symm;apply sA_ hpos<;>assumption)
  | (
   have hS0:bF_ s=c9_ ((dC_ s).drop 1) 1:=qg_ (by simp;omega) (by simp;omega) hpos (by simp_all)
   refine a4_ (fun n t h=>∃k:Nat,t 0=.val (.string s)∧t 3=.val (.int .i64 k)∧n=s.size-k∧k≤s.size∧(c9_ ((dC_ s).drop 1) 1=c9_ ((dC_ s).drop k) k∧1≤k)) (s.size-1) ?_ ?_
   ·exact⟨1,rfl,rfl,rfl,by omega,⟨rfl,Nat.le_refl _⟩⟩
   ·rintro J hJ n t h ⟨k,t0,k3,rfl,hk,hS⟩
    by_cases hlt:k<s.size
    ·skip
     obtain⟨hS,hk1⟩:=hS
     rw[fz_ (dC_ s) k (by omega)]at hS
     have hk0:decide (k=0)=false:=by simp;omega
     simp only[hk0,Bool.false_and,Bool.or_false,Bool.not_false,Bool.true_and]at hS
     simp(disch:=omega)only[t0,k3,hlt,go_sem,seval]
     repeat' (first
      | exact am_ _ _
      | exact⟨s.size-(k+1),by omega,hJ _ _ _ ⟨k+1,by simp[upd,t0],by simp[upd],rfl,by omega,by refine⟨?_,by omega⟩;rw[hS];first|(simp only[*,Bool.true_and,Bool.or_true,Bool.true_or];done)|simp[*]⟩⟩
      | (refine af_ ?_;rw[hS0,hS];first|(simp only[*,Bool.false_and,Bool.or_self];done)|(simp[*];done))
      | (refine af_ ?_;rw[hS0,hS.1,f9_ _ _ (by omega)])
      | simp(disch:=omega)only[t0,k3,go_sem,seval]
      | (refine PureCall.call (cH_ _ _) ?_)
      | (refine PureCall.q (cH_ _ _) ?_)
      | (refine PureCall.call (d0_ _ _) ?_)
      | (refine PureCall.q (d0_ _ _) ?_)
      | ((first|(apply bz_;assumption)|(apply by_;assumption)|(apply bS_;assumption)|(apply bT_;assumption));intro hb;try simp only[hb])
      | ((first|(apply aT_;assumption)|(apply aR_;assumption)|(apply a6_;assumption)|(apply a7_;assumption));intro hb;try simp only[hb])
      | ((first|apply aQ_|apply aZ_|apply at_|apply as_)<;>intro hb<;>(try simp only[hb])<;>(first|have hp:=br_ hb|have hp:=bn_ hb|have hp:=bq_ hb|have hp:=bp_ hb|skip)))
    ·skip
     simp(disch:=omega)only[t0,k3,hlt,go_sem,seval]
     repeat' (first
      | exact am_ _ _
      | (refine af_ ?_;rw[hS0,hS];first|(simp only[*,Bool.and_true,Bool.true_and,Bool.and_false,Bool.false_and,Bool.or_true,Bool.true_or,Bool.or_false,Bool.false_or,Bool.not_true,Bool.not_false,decide_true,decide_false,Bool.and_self,Bool.or_self];done)|(simp[*];done))
      | (refine af_ ?_;rw[hS0,hS.1,f9_ _ _ (by omega)])
      | simp(disch:=omega)only[t0,k3,go_sem,seval]
      | (refine PureCall.call (cH_ _ _) ?_)
      | (refine PureCall.q (cH_ _ _) ?_)
      | (refine PureCall.call (d0_ _ _) ?_)
      | (refine PureCall.q (d0_ _ _) ?_)
      | ((first|(apply bz_;assumption)|(apply by_;assumption)|(apply bS_;assumption)|(apply bT_;assumption));intro hb;try simp only[hb])
      | ((first|(apply aT_;assumption)|(apply aR_;assumption)|(apply a6_;assumption)|(apply a7_;assumption));intro hb;try simp only[hb])
      | ((first|apply aQ_|apply aZ_|apply at_|apply as_)<;>intro hb<;>(try simp only[hb])<;>(first|have hp:=br_ hb|have hp:=bn_ hb|have hp:=bq_ hb|have hp:=bp_ hb|skip))))
  | simp(disch:=omega)only[go_sem,seval]
  | (refine PureCall.call (cH_ _ _) ?_)
  | (refine PureCall.q (cH_ _ _) ?_)
  | ((first|(apply bz_;assumption)|(apply by_;assumption)|(apply bS_;assumption)|(apply bT_;assumption));intro hb;try simp only[hb])
  | ((first|(apply aT_;assumption)|(apply aR_;assumption)|(apply a6_;assumption)|(apply a7_;assumption));intro hb;try simp only[hb])
  | ((first|apply aQ_|apply aZ_|apply at_|apply as_)<;>intro hb<;>(try simp only[hb])<;>(first|have hp:=br_ hb|have hp:=bn_ hb|have hp:=bq_ hb|have hp:=bp_ hb|skip)))
def way(n:ByteArray)(s:List ByteArray)(o:ByteArray)(os:List ByteArray):Bool:=decide (n=o)&&(s3_ s os||s3_ os s)
def c97:LC :=
 .q [.o [.f 2],.o [.m 3 0,.c1 4 148 3,.m 2 4],.ret]
def y4_:LF:=⟨1,5,c97,[.tmp 2]⟩
theorem A4_:aC_ prog Tryz.f97 y4_:=az_
theorem iM_(s:ByteArray)(hs:s.size≤1048576)(h:List Row):PureCall prog 97 [.val (.string s)] h (.val (.bool (bF_ s))):=by
 refine av_ mixed Tryz.func97 A4_ rfl rfl ?_ h
 simp(disch:=omega)only[y4_,c97,go_sem,seval]
 repeat' (first
  | exact am_ _ _
  | simp(disch:=omega)only[go_sem,↓reduceIte]
  | (refine PureCall.call (h3_ _ hs _) ?_)
  | (refine PureCall.q (h3_ _ hs _) ?_)
  | ((first|(apply aT_;assumption)|(apply aR_;assumption)|(apply a6_;assumption)|(apply a7_;assumption));intro hb;try simp only[hb])
  | ((first|apply at_|apply as_)<;>intro hb<;>(try simp only[hb])<;>(first|have hp:=br_ hb|have hp:=bn_ hb|have hp:=bq_ hb|have hp:=bp_ hb|skip)))
end Go.Proofs.YtlcmlgihlojdmaaGreatDoor
