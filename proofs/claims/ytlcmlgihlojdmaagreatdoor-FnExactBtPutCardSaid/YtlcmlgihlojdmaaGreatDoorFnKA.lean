/-
 Contracts of functions. Conditions: as each theorem says.
-/
import Derived.Test.YtlcmlgihlojdmaaGreatDoorFnO
import Derived.Test.YtlcmlgihlojdmaaGreatDoorAwC
import Derived.Test.YtlcmlgihlojdmaaGreatDoorPlNum
import Derived.Test.YtlcmlgihlojdmaaGreatDoorPlKey
namespace Go.Proofs.YtlcmlgihlojdmaaGreatDoor
open Tryz (prog)
open List
open Go.AW
set_option linter.unusedVariables false
set_option linter.unusedSimpArgs false
set_option maxRecDepth 4000
abbrev bs(s:ByteArray):List UInt8:=s.data.toList
abbrev bss(xs:List ByteArray):List (List UInt8):=xs.map fun s=>s.data.toList
theorem hd_(s:ByteArray):txt s.data.toList=s:=(kp_ s).symm
theorem eX_(s:ByteArray):s.data.toList.length=s.size:=by rw[Array.length_toList];rfl
theorem mt_(s:ByteArray)(hs:s.size≤1048576)(h:List Row):aa_ prog 215 [.val (.string s)] h (.val (.bool (d5_ s.data.toList))):=by
 have:=nm_ s.data.toList (by rw[eX_];omega) h
 rwa [hd_]at this
theorem nO_(s:ByteArray)(hs:s.size≤1048576)(h:List Row):aa_ prog 216 [.val (.string s)] h (.val (.int .i64 (cj_ s.data.toList))):=by
 have:=kk_ s.data.toList (by rw[eX_];omega) h
 rwa [hd_]at this
def eqS(s t:ByteArray):Bool:=decide (s=t)
def tM_(xs ys:List ByteArray):Bool:=decide (xs.length≤ys.length)&&BQ_ eqS xs (ys.take xs.length)
def d7_(b:Int):Bool:=decide (97≤b)&&decide (b≤122)||decide (65≤b)&&decide (b≤90)
def f6_(b:Int):Bool:=decide (48≤b)&&decide (b≤57)
def eg_(s:ByteArray):Bool:=decide (1≤(s.size:Int))&&decide ((s.size:Int)≤24)
def AE_:LC :=
 .q [.o [.f 2],.o [.m 3 0,.s 4 (.bin .leq false (.const (.int .u8 97)) (.tmp 3)),.m 5 4,.gm 6 5 true 0,.g 7 5 true (.bin .leq false (.tmp 6) (.const (.int .u8 122))),.pf 8 5 7,.m 9 8,.gm 10 9 false 0,.g 11 9
 false (.bin .leq false (.const (.int .u8 65)) (.tmp 10)),.gm 12 9 false 11,.gm 13 12 true 0,.g 14 12 true (.bin .leq false (.tmp 13) (.const (.int .u8 90))),.g 15 9 false (.pick (.tmp 12) (.tmp 14) (.const (.bool
 false))),.pt 16 9 15,.m 2 16],.ret]
def x8_:LF:=⟨1,17,AE_,[.tmp 2]⟩
theorem AU_:aA_ prog Tryz.f160 x8_:=as_
theorem eD_(b:Int)  (h:List Row):aa_ prog 160 [.val (.int .u8 b)] h (.val (.bool (d7_ b))):=by
 refine ar_ mixed Tryz.func160 AU_ rfl rfl ?_ h
 simp(disch:=omega)only[x8_,AE_,go_sem,seval]
 repeat' (first
  | exact ah_ _ _
  | (refine ai_ ?_;first|rfl|(simp only[d7_, *,Bool.true_and,Bool.and_false,Bool.false_and,Bool.true_or,Bool.false_or,decide_true,decide_false,Bool.and_self,Bool.or_self];done)|(simp[d7_, *];done))
  | simp(disch:=omega)only[go_sem,seval]
  | ((first|(apply bL_;assumption)|(apply bK_;assumption)|(apply b9_;assumption)|(apply b8_;assumption));intro hb;try simp only[hb])
  | ((first|(apply aW_;assumption)|(apply aV_;assumption)|(apply bb_;assumption)|(apply be_;assumption));intro hb;try simp only[hb])
  | ((first|apply aZ_|apply a7_|apply aB_|apply aC_)<;>intro hb<;>(try simp only[hb])<;>(first|have hp:=bx_ hb|have hp:=bw_ hb|have hp:=bu_ hb|have hp:=bv_ hb|skip)))
def Ba_:LC :=
 .q [.o [.f 2],.o [.m 3 0,.s 4 (.bin .geq false (.tmp 3) (.const (.int .u8 97))),.m 5 4,.gm 6 5 true 0,.g 7 5 true (.bin .leq false (.tmp 6) (.const (.int .u8 122))),.pf 8 5 7,.m 9 8,.gm 10 9 false 0,.g 11 9
 false (.bin .geq false (.tmp 10) (.const (.int .u8 65))),.gm 12 9 false 11,.gm 13 12 true 0,.g 14 12 true (.bin .leq false (.tmp 13) (.const (.int .u8 90))),.g 15 9 false (.pick (.tmp 12) (.tmp 14) (.const (.bool
 false))),.pt 16 9 15,.m 2 16],.ret]
def xb_:LF:=⟨1,17,Ba_,[.tmp 2]⟩
theorem zX_:aA_ prog Tryz.f190 xb_:=as_
theorem cY_(b:Int)  (h:List Row):aa_ prog 190 [.val (.int .u8 b)] h (.val (.bool (d7_ b))):=by
 refine ar_ mixed Tryz.func190 zX_ rfl rfl ?_ h
 simp(disch:=omega)only[xb_,Ba_,go_sem,seval]
 repeat' (first
  | exact ah_ _ _
  | (refine ai_ ?_;first|rfl|(simp only[d7_, *,Bool.true_and,Bool.and_false,Bool.false_and,Bool.true_or,Bool.false_or,decide_true,decide_false,Bool.and_self,Bool.or_self];done)|(simp[d7_, *];done))
  | simp(disch:=omega)only[go_sem,seval]
  | ((first|(apply bL_;assumption)|(apply bK_;assumption)|(apply b9_;assumption)|(apply b8_;assumption));intro hb;try simp only[hb])
  | ((first|(apply aW_;assumption)|(apply aV_;assumption)|(apply bb_;assumption)|(apply be_;assumption));intro hb;try simp only[hb])
  | ((first|apply aZ_|apply a7_|apply aB_|apply aC_)<;>intro hb<;>(try simp only[hb])<;>(first|have hp:=bx_ hb|have hp:=bw_ hb|have hp:=bu_ hb|have hp:=bv_ hb|skip)))
def Ab_:LC :=
 .q [.o [.f 2],.o [.m 3 0,.s 4 (.bin .leq false (.const (.int .u8 48)) (.tmp 3)),.m 5 4,.gm 6 5 true 0,.g 7 5 true (.bin .leq false (.tmp 6) (.const (.int .u8 57))),.pf 8 5 7,.m 2 8],.ret]
def xE_:LF:=⟨1,9,Ab_,[.tmp 2]⟩
theorem B6_:aA_ prog Tryz.f161 xE_:=as_
theorem eS_(b:Int)  (h:List Row):aa_ prog 161 [.val (.int .u8 b)] h (.val (.bool (f6_ b))):=by
 refine ar_ mixed Tryz.func161 B6_ rfl rfl ?_ h
 simp(disch:=omega)only[xE_,Ab_,go_sem,seval]
 repeat' (first
  | exact ah_ _ _
  | (refine ai_ ?_;first|rfl|(simp only[f6_, *,Bool.true_and,Bool.false_and,decide_true,decide_false];done)|(simp[f6_, *];done))
  | simp(disch:=omega)only[go_sem,seval]
  | ((first|(apply bL_;assumption)|(apply bK_;assumption)|(apply b9_;assumption)|(apply b8_;assumption));intro hb;try simp only[hb])
  | ((first|(apply aW_;assumption)|(apply aV_;assumption)|(apply bb_;assumption)|(apply be_;assumption));intro hb;try simp only[hb])
  | ((first|apply aZ_|apply a7_|apply aB_|apply aC_)<;>intro hb<;>(try simp only[hb])<;>(first|have hp:=bx_ hb|have hp:=bw_ hb|have hp:=bu_ hb|have hp:=bv_ hb|skip)))
theorem ek_(b:Int)  (h:List Row):aa_ prog 191 [.val (.int .u8 b)] h (.val (.bool (f6_ b))):=by
 refine ar_ mixed Tryz.func191 u3_ rfl rfl ?_ h
 simp(disch:=omega)only[s4_,vA_,go_sem,seval]
 repeat' (first
  | exact ah_ _ _
  | (refine ai_ ?_;first|rfl|(simp only[f6_, *,Bool.true_and,Bool.false_and,decide_true,decide_false];done)|(simp[f6_, *];done))
  | simp(disch:=omega)only[go_sem,seval]
  | ((first|(apply bL_;assumption)|(apply bK_;assumption)|(apply b9_;assumption)|(apply b8_;assumption));intro hb;try simp only[hb])
  | ((first|(apply aW_;assumption)|(apply aV_;assumption)|(apply bb_;assumption)|(apply be_;assumption));intro hb;try simp only[hb])
  | ((first|apply aZ_|apply a7_|apply aB_|apply aC_)<;>intro hb<;>(try simp only[hb])<;>(first|have hp:=bx_ hb|have hp:=bw_ hb|have hp:=bu_ hb|have hp:=bv_ hb|skip)))
def zl_:LC :=
 .q [.o [.f 2],.o [.m 3 0,.s 4 (.lenStr (.tmp 3)),.bk 5 .geq false 4 1,.m 6 5,.gm 7 6 true 0,.g 8 6 true (.lenStr (.tmp 7)),.g 9 6 true (.bin .leq false (.tmp 8) (.const (.int .i64 24))),.pf 10 6 9,.m 2 10],
 .ret]
def yg_:LF:=⟨1,11,zl_,[.tmp 2]⟩
theorem AY_:aA_ prog Tryz.f184 yg_:=as_
theorem kc_(s:ByteArray)  (h:List Row):aa_ prog 184 [.val (.string s)] h (.val (.bool (eg_ s))):=by
 refine ar_ mixed Tryz.func184 AY_ rfl rfl ?_ h
 simp(disch:=omega)only[yg_,zl_,go_sem,seval]
 repeat' (first
  | exact ah_ _ _
  | (refine ai_ ?_;first|rfl|(simp only[eg_, *,Bool.true_and,Bool.false_and,decide_true,decide_false];done)|(simp[eg_, *];done))
  | simp(disch:=omega)only[go_sem,seval]
  | ((first|(apply bL_;assumption)|(apply bK_;assumption)|(apply b9_;assumption)|(apply b8_;assumption));intro hb;try simp only[hb])
  | ((first|(apply aW_;assumption)|(apply aV_;assumption)|(apply bb_;assumption)|(apply be_;assumption));intro hb;try simp only[hb])
  | ((first|apply aZ_|apply a7_|apply aB_|apply aC_)<;>intro hb<;>(try simp only[hb])<;>(first|have hp:=bx_ hb|have hp:=bw_ hb|have hp:=bu_ hb|have hp:=bv_ hb|skip)))
def A6_:LC :=
 .q [.o [.f 2],.o [.m 3 0,.s 4 (.lenStr (.tmp 3)),.bk 5 .geq false 4 1,.m 6 5,.gm 7 6 true 0,.g 8 6 true (.lenStr (.tmp 7)),.g 9 6 true (.bin .leq false (.tmp 8) (.const (.int .i64 24))),.pf 10 6 9,.m 2 10],
 .ret]
def yd_:LF:=⟨1,11,A6_,[.tmp 2]⟩
theorem B3_:aA_ prog Tryz.f149 yd_:=as_
theorem fk_(s:ByteArray)  (h:List Row):aa_ prog 149 [.val (.string s)] h (.val (.bool (eg_ s))):=by
 refine ar_ mixed Tryz.func149 B3_ rfl rfl ?_ h
 simp(disch:=omega)only[yd_,A6_,go_sem,seval]
 repeat' (first
  | exact ah_ _ _
  | (refine ai_ ?_;first|rfl|(simp only[eg_, *,Bool.true_and,Bool.false_and,decide_true,decide_false];done)|(simp[eg_, *];done))
  | simp(disch:=omega)only[go_sem,seval]
  | ((first|(apply bL_;assumption)|(apply bK_;assumption)|(apply b9_;assumption)|(apply b8_;assumption));intro hb;try simp only[hb])
  | ((first|(apply aW_;assumption)|(apply aV_;assumption)|(apply bb_;assumption)|(apply be_;assumption));intro hb;try simp only[hb])
  | ((first|apply aZ_|apply a7_|apply aB_|apply aC_)<;>intro hb<;>(try simp only[hb])<;>(first|have hp:=bx_ hb|have hp:=bw_ hb|have hp:=bu_ hb|have hp:=bv_ hb|skip)))
def vp_:LC :=
 .q [.o [.ki 4 0],.q [.o [.m 6 0,.ll 7 6,.ki 8 0],.block 0 (.loop (.q [.o [.bb 9 .lss false 8 7],.k 9 .skip (.exit 0),.block 1 (.q [.o [.m 10 8,.m 5 10],.o [.m 11 1,.m 12 0,.m 13 5,.ia 14 1 12 13,.ln 15 14,.s
 16 (.callv (.tmp 11) [.tmp 15])],.k 16 (.q [.o [.m 17 5,.m 4 17],.ret]) .skip]),.o [.bk 18 .add false 8 1,.m 8 18]]))],.o [.s 4 (.mov (.const (.int .i64 (-1))))],.ret]
def sU_:LF:=⟨2,19,vp_,[.tmp 4]⟩
theorem ua_:aA_ prog Tryz.f129 sU_:=as_
theorem hl_(xs:List ByteArray)(p:ByteArray→Bool)(g:Nat)(hx:xs.length≤1048576)(hc:cU_ prog g=true)(hp:∀x∈xs,∀h,aa_ prog g [.val (.string x)] h (.val (.bool (p x))))(h:List Row) :
 aa_ prog 129 [.list 0 1 (xs.map ag_),.fn g [] []] h (.val (.int .i64 (b5_ p xs 0))):=by
 refine ar_ mixed Tryz.func129 ua_ rfl rfl ?_ h
 simp(disch:=omega)only[sU_,vp_,go_sem,seval]
 refine aK_ (fun n t h=>∃k:Nat,t 0=.list 0 1 (xs.map ag_)∧t 1=.fn g [] []∧t 6=.list 0 1 (xs.map ag_)∧t 7=.val (.int .i64 xs.length)∧t 8=.val (.int .i64 k)∧n=xs.length-k∧k≤xs.length∧(b5_ p xs 0=b5_ p (xs.drop k) k)) (xs.length) ?_ ?_
 ·exact⟨0,rfl,rfl,rfl,rfl,rfl,rfl,Nat.zero_le _,rfl⟩
 ·rintro J hJ n t h ⟨k,t0,t1,t6,t7,k8,rfl,hk,hS⟩
  by_cases hlt:k<xs.length
  ·skip
   rw[gf_ p xs k hlt]at hS
   simp(disch:=omega)only[t0,t1,t7,k8,hlt,hc,ag_,go_sem,seval]
   repeat' (first
    | exact ah_ _ _
    | exact⟨xs.length-(k+1),by omega,hJ _ _ _ ⟨k+1,by simp[upd,t0],by simp[upd,t1],by simp[upd,t6],by simp[upd,t7],by simp[upd],rfl,by omega,by rw[hS];simp[*]⟩⟩
    | (refine aG_ ?_;rw[hS];simp[*];done)
    | (refine aG_ ?_;rw[hS,du_ _ _ _ (by omega)])
    | simp(disch:=omega)only[k8,go_sem,seval]
    | (refine aa_.call (hp xs[k] (getElem_mem hlt) _) ?_)
    | (refine aa_.q (hp xs[k] (getElem_mem hlt) _) ?_)
    | ((first|(apply aW_;assumption)|(apply aV_;assumption)|(apply bb_;assumption)|(apply be_;assumption));intro hb;try simp only[hb])
    | ((first|apply aB_|apply aC_)<;>intro hb<;>(try simp only[hb])<;>(first|have hp:=bx_ hb|have hp:=bw_ hb|have hp:=bu_ hb|have hp:=bv_ hb|skip)))
  ·skip
   simp(disch:=omega)only[t7,k8,hlt,go_sem,seval]
   repeat' (first
    | exact ah_ _ _
    | (refine aG_ ?_;rw[hS];simp[*];done)
    | (refine aG_ ?_;rw[hS,du_ _ _ _ (by omega)])
    | simp(disch:=omega)only[t0,t1,t6,t7,k8,go_sem,seval]
    | (refine aa_.call (hp xs[k] (getElem_mem hlt) _) ?_)
    | (refine aa_.q (hp xs[k] (getElem_mem hlt) _) ?_)
    | ((first|(apply aW_;assumption)|(apply aV_;assumption)|(apply bb_;assumption)|(apply be_;assumption));intro hb;try simp only[hb])
    | ((first|apply aB_|apply aC_)<;>intro hb<;>(try simp only[hb])<;>(first|have hp:=bx_ hb|have hp:=bw_ hb|have hp:=bu_ hb|have hp:=bv_ hb|skip)))
def c77:LC :=
 .q [.o [.f 4],.o [.m 5 0,.m 6 1,.c2 7 129 5 6,.bk 8 .geq false 7 0,.m 4 8],.ret]
def wC_:LF:=⟨2,9,c77,[.tmp 4]⟩
theorem xF_:aA_ prog Tryz.f77 wC_:=as_
theorem cp_(xs:List ByteArray)(p:ByteArray→Bool)(g:Nat)(hx:xs.length≤1048576)(hc:cU_ prog g=true)(hp:∀x∈xs,∀h,aa_ prog g [.val (.string x)] h (.val (.bool (p x))))(h:List Row) :
 aa_ prog 77 [.list 0 1 (xs.map ag_),.fn g [] []] h (.val (.bool (xs.any p))):=by
 refine ar_ mixed Tryz.func77 xF_ rfl rfl ?_ h
 simp(disch:=omega)only[wC_,c77,go_sem,seval]
 refine aa_.call (hl_ xs p g hx hc hp _) ?_
 simp(disch:=omega)only[go_sem,↓reduceIte]
 exact ai_ (iS_ p xs)
def ch_(xs:List ByteArray):Bool:=decide ((xs.length:Int)≤4)&&xs.all eg_
def zt_:LC :=
 .q [.o [.f 2],.o [.m 3 0,.c1 4 184 3,.nt 5 4,.m 2 5],.ret]
def xZ_:LF:=⟨1,6,zt_,[.tmp 2]⟩
theorem zI_:aA_ prog Tryz.f183 xZ_:=as_
theorem hs_(s:ByteArray)  (h:List Row):aa_ prog 183 [.val (.string s)] h (.val (.bool (!eg_ s))):=by
 refine ar_ mixed Tryz.func183 zI_ rfl rfl ?_ h
 simp(disch:=omega)only[xZ_,zt_,go_sem,seval]
 repeat' (first
  | exact ah_ _ _
  | simp(disch:=omega)only[go_sem,↓reduceIte]
  | (refine aa_.call (kc_ _ _) ?_)
  | (refine aa_.q (kc_ _ _) ?_)
  | ((first|(apply aW_;assumption)|(apply aV_;assumption)|(apply bb_;assumption)|(apply be_;assumption));intro hb;try simp only[hb])
  | ((first|apply aB_|apply aC_)<;>intro hb<;>(try simp only[hb])<;>(first|have hp:=bx_ hb|have hp:=bw_ hb|have hp:=bu_ hb|have hp:=bv_ hb|skip)))
theorem hW_{α:Type}(p:α→Bool)(xs:List α):(!xs.any fun x=>!p x)=xs.all p:=by
 induction xs with
 | nil=>rfl
 | cons x xs ih=>simp only[any_cons,all_cons,Bool.not_or,Bool.not_not,ih]
def BR_:LC :=
 .q [.o [.f 2],.o [.m 3 0,.ll 4 3,.bk 5 .leq false 4 4,.m 6 5,.gm 7 6 true 0,.g 8 6 true (.call 77 [.tmp 7,.func 183]),.gu 9 6 true 8,.pf 10 6 9,.m 2 10],.ret]
def xW_:LF:=⟨1,11,BR_,[.tmp 2]⟩
theorem Ca_:aA_ prog Tryz.f144 xW_:=as_
theorem gS_(xs:List ByteArray)(hx:xs.length≤1048576)(h:List Row):aa_ prog 144 [.list 0 1 (xs.map ag_)] h (.val (.bool (ch_ xs))):=by
 refine ar_ mixed Tryz.func144 Ca_ rfl rfl ?_ h
 simp(disch:=omega)only[xW_,BR_,go_sem,seval]
 repeat' (first
  | exact ah_ _ _
  | (refine ai_ ?_;simp only[hW_,ch_, *,Bool.true_and,Bool.false_and,decide_true,decide_false];done)
  | (refine ai_ ?_;first|rfl|(simp only[ch_, *,Bool.and_true,Bool.true_and,Bool.and_false,Bool.false_and,Bool.or_true,Bool.true_or,Bool.or_false,Bool.false_or,Bool.not_true,Bool.not_false,decide_true,decide_false,Bool.and_self,Bool.or_self];done)|(simp[ch_, *];done))
  | simp(disch:=omega)only[go_sem,seval]
  | (refine aa_.call (cp_ _ (fun s=>!eg_ s) 183 hx (by kernel_rfl) (fun x _ h=>hs_ x h) _) ?_)
  | (refine aa_.q (cp_ _ (fun s=>!eg_ s) 183 hx (by kernel_rfl) (fun x _ h=>hs_ x h) _) ?_)
  | ((first|(apply bL_;assumption)|(apply bK_;assumption)|(apply b9_;assumption)|(apply b8_;assumption));intro hb;try simp only[hb])
  | ((first|(apply aW_;assumption)|(apply aV_;assumption)|(apply bb_;assumption)|(apply be_;assumption));intro hb;try simp only[hb])
  | ((first|apply aZ_|apply a7_|apply aB_|apply aC_)<;>intro hb<;>(try simp only[hb])<;>(first|have hp:=bx_ hb|have hp:=bw_ hb|have hp:=bu_ hb|have hp:=bv_ hb|skip)))
def c99:LC :=
 .q [.o [.f 2],.q [.o [.m 4 0,.ll 5 4,.bk 6 .gtr false 5 4],.k 6 (.q [.o [.f 2],.ret]) .skip],.q [.o [.ki 3 0],.block 0 (.loop (.q [.q [.o [.m 7 3,.m 8 0,.ll 9 8,.bb 10 .lss false 7 9],.k 10 .skip (.exit 0)],
 .block 1 (.q [.o [.m 13 0,.m 14 3,.ia 15 1 13 14,.ln 16 15,.c1 17 149 16,.nt 18 17],.k 18 (.q [.o [.f 2],.ret]) .skip]),.o [.m 11 3,.bk 12 .add false 11 1,.m 3 12]]))],.o [.t 2],.ret]
def vr_:LF:=⟨1,19,c99,[.tmp 2]⟩
theorem Cg_:aA_ prog Tryz.f99 vr_:=as_
theorem gr_(xs:List ByteArray)(hx:xs.length≤1048576)(h:List Row):aa_ prog 99 [.list 0 1 (xs.map ag_)] h (.val (.bool (ch_ xs))):=by
 refine ar_ mixed Tryz.func99 Cg_ rfl rfl ?_ h
 by_cases h4:(xs.length:Int)≤4
 ·have h4':((4:Int)<xs.length)=False:=by simp;omega
  have hS0:ch_ xs=xs.all eg_:=by simp[ch_,h4]
  simp(disch:=omega)only[vr_,c99,h4',go_sem,seval]
  refine aK_ (fun n t h=>∃k:Nat,t 0=.list 0 1 (xs.map ag_)∧t 3=.val (.int .i64 k)∧n=xs.length-k∧k≤xs.length∧(xs.all eg_=(xs.drop k).all eg_)) (xs.length) ?_ ?_
  ·exact⟨0,rfl,rfl,rfl,Nat.zero_le _,rfl⟩
  ·rintro J hJ n t h ⟨k,t0,k3,rfl,hk,hS⟩
   by_cases hlt:k<xs.length
   ·skip
    rw[wL_ eg_ xs k hlt]at hS
    simp(disch:=omega)only[t0,k3,hlt,ag_,go_sem,seval]
    repeat' (first
     | exact ah_ _ _
     | exact⟨xs.length-(k+1),by omega,hJ _ _ _ ⟨k+1,by simp[upd,t0],by simp[upd],rfl,by omega,by rw[hS];first|(simp only[*,Bool.true_and];done)|simp[*]⟩⟩
     | (refine ai_ ?_;rw[hS0,hS];first|(simp only[*,Bool.false_and];done)|(simp[*];done))
     | (refine ai_ ?_;rw[hS0,hS,sd_ _ _ _ (by omega)])
     | simp(disch:=omega)only[k3,go_sem,seval]
     | (refine aa_.call (fk_ _ _) ?_)
     | (refine aa_.q (fk_ _ _) ?_)
     | ((first|(apply aW_;assumption)|(apply aV_;assumption)|(apply bb_;assumption)|(apply be_;assumption));intro hb;try simp only[hb])
     | ((first|apply aB_|apply aC_)<;>intro hb<;>(try simp only[hb])<;>(first|have hp:=bx_ hb|have hp:=bw_ hb|have hp:=bu_ hb|have hp:=bv_ hb|skip)))
   ·skip
    simp(disch:=omega)only[t0,k3,hlt,go_sem,seval]
    repeat' (first
     | exact ah_ _ _
     | (refine ai_ ?_;rw[hS0,hS];first|(simp only[*,Bool.and_true,Bool.true_and,Bool.and_false,Bool.false_and,Bool.or_true,Bool.true_or,Bool.or_false,Bool.false_or,Bool.not_true,Bool.not_false,decide_true,decide_false,Bool.and_self,Bool.or_self];done)|(simp[*];done))
     | (refine ai_ ?_;rw[hS0,hS,sd_ _ _ _ (by omega)])
     | simp(disch:=omega)only[t0,k3,go_sem,seval]
     | (refine aa_.call (fk_ _ _) ?_)
     | (refine aa_.q (fk_ _ _) ?_)
     | ((first|(apply aW_;assumption)|(apply aV_;assumption)|(apply bb_;assumption)|(apply be_;assumption));intro hb;try simp only[hb])
     | ((first|apply aB_|apply aC_)<;>intro hb<;>(try simp only[hb])<;>(first|have hp:=bx_ hb|have hp:=bw_ hb|have hp:=bu_ hb|have hp:=bv_ hb|skip)))
 ·have h4':((4:Int)<xs.length)=True:=by simp;omega
  simp(disch:=omega)only[vr_,c99,h4',go_sem,seval]
  exact ai_ (by simp[ch_,h4])
def c98:LC :=
 .q [.o [.f 2],.o [.m 3 0,.c1 4 99 3,.m 2 4],.ret]
def Bv_:LF:=⟨1,5,c98,[.tmp 2]⟩
theorem CY_:aA_ prog Tryz.f98 Bv_:=as_
theorem i9_(xs:List ByteArray)(hx:xs.length≤1048576)(h:List Row):aa_ prog 98 [.list 0 1 (xs.map ag_)] h (.val (.bool (ch_ xs))):=by
 refine ar_ mixed Tryz.func98 CY_ rfl rfl ?_ h
 simp(disch:=omega)only[Bv_,c98,go_sem,seval]
 repeat' (first
  | exact ah_ _ _
  | simp(disch:=omega)only[go_sem,↓reduceIte]
  | (refine aa_.call (gr_ _ hx _) ?_)
  | (refine aa_.q (gr_ _ hx _) ?_)
  | ((first|(apply aW_;assumption)|(apply aV_;assumption)|(apply bb_;assumption)|(apply be_;assumption));intro hb;try simp only[hb])
  | ((first|apply aB_|apply aC_)<;>intro hb<;>(try simp only[hb])<;>(first|have hp:=bx_ hb|have hp:=bw_ hb|have hp:=bu_ hb|have hp:=bv_ hb|skip)))
def dl_:List Int→Nat→Bool
 | [],_=>true
 | b::bs,k=>(d7_ b||(decide (k=0)&&decide (b=37))||(!decide (k=0)&&f6_ b))&&dl_ bs (k+1)
def bY_(s:ByteArray):Bool:=decide (1≤(s.size:Int))&&decide ((s.size:Int)≤8)&&dl_ (dK_ s) 0
theorem fL_(bs:List Int)(k:Nat)(h:k<bs.length):dl_ (bs.drop k) k=((d7_ bs[k]||(decide (k=0)&&decide (bs[k]=37))||(!decide (k=0)&&f6_ bs[k]))&&dl_ (bs.drop (k+1)) (k+1)):=by
 rw[drop_eq_getElem_cons h];rfl
theorem ge_(bs:List Int)(k:Nat)(h:bs.length≤k):dl_ (bs.drop k) k=true:=by
 rw[drop_eq_nil_of_le h];rfl
def Ax_:LC :=
 .q [.o [.f 2],.q [.o [.ki 3 0],.block 0 (.loop (.q [.q [.o [.m 5 3,.m 6 0,.s 7 (.lenStr (.tmp 6)),.bb 8 .lss false 5 7],.k 8 .skip (.exit 0)],.block 1 (.q [.o [.m 11 0,.m 12 3,.s 13 (.indexStr (.tmp 11) (.tmp
 12)),.c1 14 160 13,.m 15 14,.gm 16 15 false 3,.g 17 15 false (.bin .eql false (.tmp 16) (.const (.int .i64 0))),.gm 18 15 false 17,.gm 19 18 true 0,.gm 20 18 true 3,.g 21 18 true (.indexStr (.tmp 19) (.tmp 20)),
 .g 22 18 true (.bin .eql false (.tmp 21) (.const (.int .u8 37))),.g 23 15 false (.pick (.tmp 18) (.tmp 22) (.const (.bool false))),.pt 24 15 23,.m 4 24],.o [.m 25 4,.nt 26 25,.m 27 26,.gm 28 27 true 3,.g 29 27
 true (.bin .eql false (.tmp 28) (.const (.int .i64 0))),.gm 30 27 true 29,.gm 31 30 false 0,.gm 32 30 false 3,.g 33 30 false (.indexStr (.tmp 31) (.tmp 32)),.gc 34 30 false 161 33,.gu 35 30 false 34,.g 36 27 true
 (.pick (.tmp 30) (.const (.bool true)) (.tmp 35)),.pf 37 27 36],.k 37 (.q [.o [.f 2],.ret]) .skip]),.o [.m 9 3,.bk 10 .add false 9 1,.m 3 10]]))],.o [.m 38 0,.s 39 (.lenStr (.tmp 38)),.bk 40 .geq false 39 1,.m
 41 40,.gm 42 41 true 0,.g 43 41 true (.lenStr (.tmp 42)),.g 44 41 true (.bin .leq false (.tmp 43) (.const (.int .i64 8))),.pf 45 41 44,.m 2 45],.ret]
def xi_:LF:=⟨1,46,Ax_,[.tmp 2]⟩
theorem zs_:aA_ prog Tryz.f128 xi_:=as_
theorem nU_(s:ByteArray)(hs:s.size≤1048576)(h:List Row):aa_ prog 128 [.val (.string s)] h (.val (.bool (bY_ s))):=by
 refine ar_ mixed Tryz.func128 zs_ rfl rfl ?_ h
 have hl:=dd_ s
 simp(disch:=omega)only[xi_,Ax_,go_sem]
 refine aK_ (fun n t h=>∃k:Nat,t 0=.val (.string s)∧t 3=.val (.int .i64 k)∧n=s.size-k∧k≤s.size∧(dl_ (dK_ s) 0=dl_ ((dK_ s).drop k) k)) (s.size) ?_ ?_
 ·exact⟨0,rfl,rfl,rfl,Nat.zero_le _,rfl⟩
 ·rintro J hJ n t h ⟨k,t0,k3,rfl,hk,hS⟩
  by_cases hlt:k<s.size
  ·skip
   rw[fL_ (dK_ s) k (by omega)]at hS
   simp(disch:=omega)only[t0,k3,hlt,go_sem,seval]
   repeat' (first
    | exact ah_ _ _
    | exact⟨s.size-(k+1),by omega,hJ _ _ _ ⟨k+1,by simp[upd,t0],by simp[upd],rfl,by omega,by rw[hS];first|(simp only[*,Bool.true_and,Bool.false_and,Bool.or_true,Bool.true_or,Bool.or_false,Bool.not_true,Bool.not_false,Bool.and_self,Bool.or_self];done)|simp[*]⟩⟩
    | (refine ai_ ?_;simp only[bY_];rw[hS];first|(simp only[*,Bool.and_false,Bool.false_and,Bool.not_true,Bool.not_false,Bool.or_self];done)|(simp[*];done))
    | (refine ai_ ?_;rw[ge_ _ _ (by omega)]at hS;simp only[bY_];rw[hS];first|(simp only[*,Bool.and_true,Bool.true_and,Bool.and_false,Bool.false_and,Bool.or_true,Bool.true_or,Bool.or_false,Bool.false_or,Bool.not_true,Bool.not_false,decide_true,decide_false,Bool.and_self,Bool.or_self];done)|(simp[*];done))
    | simp(disch:=omega)only[t0,k3,go_sem,seval]
    | (refine aa_.call (eD_ _ _) ?_)
    | (refine aa_.q (eD_ _ _) ?_)
    | (refine aa_.call (eS_ _ _) ?_)
    | (refine aa_.q (eS_ _ _) ?_)
    | ((first|(apply bL_;assumption)|(apply bK_;assumption)|(apply b9_;assumption)|(apply b8_;assumption));intro hb;try simp only[hb])
    | ((first|(apply aW_;assumption)|(apply aV_;assumption)|(apply bb_;assumption)|(apply be_;assumption));intro hb;try simp only[hb])
    | ((first|apply aZ_|apply a7_|apply aB_|apply aC_)<;>intro hb<;>(try simp only[hb])<;>(first|have hp:=bx_ hb|have hp:=bw_ hb|have hp:=bu_ hb|have hp:=bv_ hb|skip)))
  ·skip
   simp(disch:=omega)only[t0,k3,hlt,go_sem,seval]
   repeat' (first
    | exact ah_ _ _
    | (refine ai_ ?_;simp only[bY_];rw[hS];first|(simp only[*,Bool.true_and,Bool.false_and,decide_true,decide_false];done)|(simp[*];done))
    | (refine ai_ ?_;rw[ge_ _ _ (by omega)]at hS;simp only[bY_];rw[hS];first|(simp only[*,Bool.and_true,Bool.true_and,decide_true];done)|(simp[*];done))
    | simp(disch:=omega)only[t0,go_sem,seval]
    | (refine aa_.call (eD_ _ _) ?_)
    | (refine aa_.q (eD_ _ _) ?_)
    | (refine aa_.call (eS_ _ _) ?_)
    | (refine aa_.q (eS_ _ _) ?_)
    | ((first|(apply bL_;assumption)|(apply bK_;assumption)|(apply b9_;assumption)|(apply b8_;assumption));intro hb;try simp only[hb])
    | ((first|(apply aW_;assumption)|(apply aV_;assumption)|(apply bb_;assumption)|(apply be_;assumption));intro hb;try simp only[hb])
    | ((first|apply aZ_|apply a7_|apply aB_|apply aC_)<;>intro hb<;>(try simp only[hb])<;>(first|have hp:=bx_ hb|have hp:=bw_ hb|have hp:=bu_ hb|have hp:=bv_ hb|skip)))
theorem sF_{s:ByteArray}(h3:0<s.size)(h4:d7_ ((dK_ s)[0]'(by rw[dd_];exact h3))=false)(h5:decide (((dK_ s)[0]'(by rw[dd_];exact h3))=37)=false):bY_ s=false:=by
 have h6:=fL_ (dK_ s) 0 (by rw[dd_];exact h3)
 rw[drop_zero]at h6
 simp only[bY_,h6,h4,h5];simp
theorem q4_{s:ByteArray}(h1:decide ((s.size:Int)<1)=false)(h2:decide (8<(s.size:Int))=false)(h3:0<s.size)(h4:d7_ ((dK_ s)[0]'(by rw[dd_];exact h3))=true∨((dK_ s)[0]'(by rw[dd_];exact h3))=37):bY_ s=dl_ ((dK_ s).drop 1) 1:=by
 have h5:=fL_ (dK_ s) 0 (by rw[dd_];exact h3)
 rw[drop_zero]at h5
 have h6:=of_decide_eq_false h1
 have h7:=of_decide_eq_false h2
 have e1:decide (1≤(s.size:Int))=true:=by simp;omega
 have e2:decide ((s.size:Int)≤8)=true:=by simp;omega
 simp only[bY_,e1,e2,h5,Bool.true_and]
 rcases h4 with h4|h4<;>simp[h4]
def sR_:LC :=
 .q [.o [.f 2],.q [.o [.m 4 0,.s 5 (.lenStr (.tmp 4)),.bk 6 .lss false 5 1,.m 7 6,.gm 8 7 false 0,.g 9 7 false (.lenStr (.tmp 8)),.g 10 7 false (.bin .gtr false (.tmp 9) (.const (.int .i64 8))),.pt 11 7 10,.m 12
 11,.gm 13 12 false 0,.g 14 12 false (.indexStr (.tmp 13) (.const (.int .i64 0))),.gc 15 12 false 190 14,.gu 16 12 false 15,.gm 17 12 false 16,.gm 18 17 true 0,.g 19 17 true (.indexStr (.tmp 18) (.const (.int .i64
 0))),.g 20 17 true (.bin .neq false (.tmp 19) (.const (.int .u8 37))),.g 21 12 false (.pick (.tmp 17) (.tmp 20) (.const (.bool false))),.pt 22 12 21],.k 22 (.q [.o [.f 2],.ret]) .skip],.q [.o [.ki 3 1],.block 0
 (.loop (.q [.q [.o [.m 23 3,.m 24 0,.s 25 (.lenStr (.tmp 24)),.bb 26 .lss false 23 25],.k 26 .skip (.exit 0)],.block 1 (.q [.o [.m 29 0,.m 30 3,.s 31 (.indexStr (.tmp 29) (.tmp 30)),.c1 32 190 31,.nt 33 32,.m
 34 33,.gm 35 34 true 0,.gm 36 34 true 3,.g 37 34 true (.indexStr (.tmp 35) (.tmp 36)),.gc 38 34 true 191 37,.gu 39 34 true 38,.pf 40 34 39],.k 40 (.q [.o [.f 2],.ret]) .skip]),.o [.m 27 3,.bk 28 .add false 27
 1,.m 3 28]]))],.o [.t 2],.ret]
def pP_:LF:=⟨1,41,sR_,[.tmp 2]⟩
theorem BB_:aA_ prog Tryz.f148 pP_:=as_
theorem iI_(s:ByteArray)(hs:s.size≤1048576)(h:List Row):aa_ prog 148 [.val (.string s)] h (.val (.bool (bY_ s))):=by
 refine ar_ mixed Tryz.func148 BB_ rfl rfl ?_ h
 have hl:=dd_ s
 by_cases h0:(s.size:Int)<1
 ·simp(disch:=omega)only[pP_,sR_,h0,go_sem,seval]
  have h9:¬ (1≤(s.size:Int)):=by omega
  exact ai_ (by simp[bY_,h9])
 by_cases h8:8<(s.size:Int)
 ·simp(disch:=omega)only[pP_,sR_,h0,h8,go_sem,seval]
  have h9:¬ ((s.size:Int)≤8):=by omega
  exact ai_ (by simp[bY_,h9])
 have hpos:0<s.size:=by omega
 have hle:(dK_ s)[0]?=some ((dK_ s)[0]'(by omega)):=getElem?_eq_getElem (by omega)
 simp(disch:=omega)only[pP_,sR_,h0,h8,go_sem,seval]
 repeat' (first
  | exact ah_ _ _
  | (refine ai_ ?_;apply Eq.symm;apply sF_ hpos<;>assumption)
  | (
   have hS0:bY_ s=dl_ ((dK_ s).drop 1) 1:=q4_ (by simp;omega) (by simp;omega) hpos (by simp_all)
   refine aK_ (fun n t h=>∃k:Nat,t 0=.val (.string s)∧t 3=.val (.int .i64 k)∧n=s.size-k∧k≤s.size∧(dl_ ((dK_ s).drop 1) 1=dl_ ((dK_ s).drop k) k∧1≤k)) (s.size-1) ?_ ?_
   ·exact⟨1,rfl,rfl,rfl,by omega,⟨rfl,Nat.le_refl _⟩⟩
   ·rintro J hJ n t h ⟨k,t0,k3,rfl,hk,hS⟩
    by_cases hlt:k<s.size
    ·skip
     obtain⟨hS,hk1⟩:=hS
     rw[fL_ (dK_ s) k (by omega)]at hS
     have hk0:decide (k=0)=false:=by simp;omega
     simp only[hk0,Bool.false_and,Bool.or_false,Bool.not_false,Bool.true_and]at hS
     simp(disch:=omega)only[t0,k3,hlt,go_sem,seval]
     repeat' (first
      | exact ah_ _ _
      | exact⟨s.size-(k+1),by omega,hJ _ _ _ ⟨k+1,by simp[upd,t0],by simp[upd],rfl,by omega,by refine⟨?_,by omega⟩;rw[hS];first|(simp only[*,Bool.true_and,Bool.or_true,Bool.true_or];done)|simp[*]⟩⟩
      | (refine ai_ ?_;rw[hS0,hS];first|(simp only[*,Bool.false_and,Bool.or_self];done)|(simp[*];done))
      | (refine ai_ ?_;rw[hS0,hS.1,ge_ _ _ (by omega)])
      | simp(disch:=omega)only[t0,k3,go_sem,seval]
      | (refine aa_.call (cY_ _ _) ?_)
      | (refine aa_.q (cY_ _ _) ?_)
      | (refine aa_.call (ek_ _ _) ?_)
      | (refine aa_.q (ek_ _ _) ?_)
      | ((first|(apply bL_;assumption)|(apply bK_;assumption)|(apply b9_;assumption)|(apply b8_;assumption));intro hb;try simp only[hb])
      | ((first|(apply aW_;assumption)|(apply aV_;assumption)|(apply bb_;assumption)|(apply be_;assumption));intro hb;try simp only[hb])
      | ((first|apply aZ_|apply a7_|apply aB_|apply aC_)<;>intro hb<;>(try simp only[hb])<;>(first|have hp:=bx_ hb|have hp:=bw_ hb|have hp:=bu_ hb|have hp:=bv_ hb|skip)))
    ·skip
     simp(disch:=omega)only[t0,k3,hlt,go_sem,seval]
     repeat' (first
      | exact ah_ _ _
      | (refine ai_ ?_;rw[hS0,hS];first|(simp only[*,Bool.and_true,Bool.true_and,Bool.and_false,Bool.false_and,Bool.or_true,Bool.true_or,Bool.or_false,Bool.false_or,Bool.not_true,Bool.not_false,decide_true,decide_false,Bool.and_self,Bool.or_self];done)|(simp[*];done))
      | (refine ai_ ?_;rw[hS0,hS.1,ge_ _ _ (by omega)])
      | simp(disch:=omega)only[t0,k3,go_sem,seval]
      | (refine aa_.call (cY_ _ _) ?_)
      | (refine aa_.q (cY_ _ _) ?_)
      | (refine aa_.call (ek_ _ _) ?_)
      | (refine aa_.q (ek_ _ _) ?_)
      | ((first|(apply bL_;assumption)|(apply bK_;assumption)|(apply b9_;assumption)|(apply b8_;assumption));intro hb;try simp only[hb])
      | ((first|(apply aW_;assumption)|(apply aV_;assumption)|(apply bb_;assumption)|(apply be_;assumption));intro hb;try simp only[hb])
      | ((first|apply aZ_|apply a7_|apply aB_|apply aC_)<;>intro hb<;>(try simp only[hb])<;>(first|have hp:=bx_ hb|have hp:=bw_ hb|have hp:=bu_ hb|have hp:=bv_ hb|skip))))
  | simp(disch:=omega)only[go_sem,seval]
  | (refine aa_.call (cY_ _ _) ?_)
  | (refine aa_.q (cY_ _ _) ?_)
  | ((first|(apply bL_;assumption)|(apply bK_;assumption)|(apply b9_;assumption)|(apply b8_;assumption));intro hb;try simp only[hb])
  | ((first|(apply aW_;assumption)|(apply aV_;assumption)|(apply bb_;assumption)|(apply be_;assumption));intro hb;try simp only[hb])
  | ((first|apply aZ_|apply a7_|apply aB_|apply aC_)<;>intro hb<;>(try simp only[hb])<;>(first|have hp:=bx_ hb|have hp:=bw_ hb|have hp:=bu_ hb|have hp:=bv_ hb|skip)))
def way(n:ByteArray)(s:List ByteArray)(o:ByteArray)(os:List ByteArray):Bool:=decide (n=o)&&(tM_ s os||tM_ os s)
def c97:LC :=
 .q [.o [.f 2],.o [.m 3 0,.c1 4 148 3,.m 2 4],.ret]
def B1_:LF:=⟨1,5,c97,[.tmp 2]⟩
theorem Ce_:aA_ prog Tryz.f97 B1_:=as_
theorem ja_(s:ByteArray)(hs:s.size≤1048576)(h:List Row):aa_ prog 97 [.val (.string s)] h (.val (.bool (bY_ s))):=by
 refine ar_ mixed Tryz.func97 Ce_ rfl rfl ?_ h
 simp(disch:=omega)only[B1_,c97,go_sem,seval]
 repeat' (first
  | exact ah_ _ _
  | simp(disch:=omega)only[go_sem,↓reduceIte]
  | (refine aa_.call (iI_ _ hs _) ?_)
  | (refine aa_.q (iI_ _ hs _) ?_)
  | ((first|(apply aW_;assumption)|(apply aV_;assumption)|(apply bb_;assumption)|(apply be_;assumption));intro hb;try simp only[hb])
  | ((first|apply aB_|apply aC_)<;>intro hb<;>(try simp only[hb])<;>(first|have hp:=bx_ hb|have hp:=bw_ hb|have hp:=bu_ hb|have hp:=bv_ hb|skip)))
end Go.Proofs.YtlcmlgihlojdmaaGreatDoor
