/-
 Contracts of functions. Conditions: as each theorem says.
-/
import Derived.Test.YtlcmlgihlojdmaaGreatDoorFnBB
import Derived.Test.YtlcmlgihlojdmaaGreatDoorPlOrd2
namespace Go.Proofs.YtlcmlgihlojdmaaGreatDoor
open Tryz (prog)
open List
open Go.AW
set_option linter.unusedVariables false
set_option linter.unusedSimpArgs false
set_option maxRecDepth 4000
theorem b6_{a b c:ByteArray}(h1:aB_ a b=true)(h2:aB_ b c=true):aB_ a c=true:=mN_ _ _ _ h1 h2
theorem eP_(a:ByteArray):aB_ a a=false:=iB_ _
theorem ha_{xs:List ByteArray}(h:cF_ xs=true):∀(i j:Nat) (hj:j<xs.length) (hij:i<j),aB_ (xs[i]'(by omega)) xs[j]=true:=by
 have hk:∀k,k<xs.length→kp xs k=true:=by
  intro k hk
  rw[cF_,all_eq_true]at h
  exact h k (by simpa using hk)
 intro i j hj hij
 induction j with
 | zero=>omega
 | succ j ih =>
  have h1:=hk (j+1) hj
  rw[rc_ hj (by omega),Bool.and_eq_true]at h1
  have h2:aB_ xs[j] xs[j+1]=true:=h1.2
  rcases Nat.lt_or_ge i j with q|q
  ·exact b6_ (ih (by omega) q) h2
  ·have:i=j:=by omega
   subst this;exact h2
def lbK(xs:List ByteArray)(key:ByteArray):Nat:=(xs.takeWhile fun x=>aB_ x key).length
theorem jY_(xs:List ByteArray)(key:ByteArray):lbK xs key≤xs.length:=(takeWhile_sublist _).length_le
theorem jR_{xs:List ByteArray}{key:ByteArray}{j:Nat}(hj:j<lbK xs key):aB_ (xs[j]'(by have:=jY_ xs key;omega)) key=true:=by
 induction xs generalizing j with
 | nil=>simp[lbK]at hj
 | cons x xs ih =>
  by_cases hx:aB_ x key=true
  ·cases j with
   | zero=>exact hx
   | succ j =>
    have e:lbK (x::xs) key=lbK xs key+1:=by simp[lbK,hx]
    have:=ih (j:=j) (by omega)
    simpa using this
  ·have e:lbK (x::xs) key=0:=by simp[lbK,hx]
   omega
theorem lj_{xs:List ByteArray}{key:ByteArray}(h:lbK xs key<xs.length):aB_ xs[lbK xs key] key=false:=by
 induction xs with
 | nil=>simp at h
 | cons x xs ih =>
  by_cases hx:aB_ x key=true
  ·have e:lbK (x::xs) key=lbK xs key+1:=by simp[lbK,hx]
   simp only[e,getElem_cons_succ]
   exact ih (by simp only[e,lc_]at h;omega)
  ·have e:lbK (x::xs) key=0:=by simp[lbK,hx]
   simp only[e,getElem_cons_zero]
   simpa using hx
theorem uW_{xs:List ByteArray}(hr:cF_ xs=true)(key:ByteArray)(i:Nat)(h:i<xs.length):(aB_ xs[i] key=true↔i<lbK xs key):=by
 constructor
 ·intro q
  rcases Nat.lt_or_ge i (lbK xs key)with q2|q2
  ·exact q2
  ·exfalso
   have h3:=lj_ (xs:=xs) (key:=key) (by omega)
   rcases Nat.lt_or_ge (lbK xs key) i with q3|q3
   ·have:=ha_ hr (lbK xs key) i h q3
    rw[b6_ this q]at h3;cases h3
   ·have:i=lbK xs key:=by omega
    subst this;rw[q]at h3;cases h3
 ·exact fun q=>jR_ q
def cw_(xs:List ByteArray)(key:ByteArray):Bool:=decide (xs[lbK xs key]?=some key)
def aH_(p:ap_)(key:ByteArray):Nat×Bool:=(if(!p.Leaf&&cw_ p.Keys key)=true then lbK p.Keys key+1 else lbK p.Keys key,cw_ p.Keys key)
def ys_:LC :=
 .q [.o [.f 2],.o [.m 3 0,.m 4 0,.bb 5 .neq false 3 4,.m 2 5],.ret]
def wH_:LF:=⟨1,6,ys_,[.tmp 2]⟩
theorem zA_:aC_ prog Tryz.f207 wH_:=az_
theorem il_(a:ByteArray)  (h:List Row):PureCall prog 207 [.val (.string a)] h (.val (.bool false)):=by
 refine av_ mixed Tryz.func207 zA_ rfl rfl ?_ h
 simp(disch:=omega)only[wH_,ys_,go_sem,seval]
 repeat' (first
  | exact am_ _ _
  | (refine af_ ?_;simp;done)
  | simp(disch:=omega)only[go_sem,seval]
  | ((first|(apply aT_;assumption)|(apply aR_;assumption)|(apply a6_;assumption)|(apply a7_;assumption));intro hb;try simp only[hb])
  | ((first|apply at_|apply as_)<;>intro hb<;>(try simp only[hb])<;>(first|have hp:=br_ hb|have hp:=bn_ hb|have hp:=bq_ hb|have hp:=bp_ hb|skip)))
def yq_:LC :=
 .q [.o [.f 2],.o [.m 3 0,.m 4 0,.bb 5 .neq false 3 4,.m 2 5],.ret]
def we_:LF:=⟨1,6,yq_,[.tmp 2]⟩
theorem x4_:aC_ prog Tryz.f152 we_:=az_
theorem gd_(a:ByteArray)  (h:List Row):PureCall prog 152 [.val (.string a)] h (.val (.bool false)):=by
 refine av_ mixed Tryz.func152 x4_ rfl rfl ?_ h
 simp(disch:=omega)only[we_,yq_,go_sem,seval]
 repeat' (first
  | exact am_ _ _
  | (refine af_ ?_;simp;done)
  | simp(disch:=omega)only[go_sem,seval]
  | ((first|(apply bz_;assumption)|(apply by_;assumption)|(apply bS_;assumption)|(apply bT_;assumption));intro hb;try simp only[hb])
  | ((first|(apply aT_;assumption)|(apply aR_;assumption)|(apply a6_;assumption)|(apply a7_;assumption));intro hb;try simp only[hb])
  | ((first|apply aQ_|apply aZ_|apply at_|apply as_)<;>intro hb<;>(try simp only[hb])<;>(first|have hp:=br_ hb|have hp:=bn_ hb|have hp:=bq_ hb|have hp:=bp_ hb|skip)))
def yN_:LC :=
 .q [.o [.f 4],.o [.m 5 0,.c1 6 152 5,.m 7 6,.gm 8 7 true 1,.gc 9 7 true 152 8,.gu 10 7 true 9,.pf 11 7 10,.m 12 11,.gm 13 12 false 0,.gm 14 12 false 1,.g 15 12 false (.bin .lss false (.tmp 13) (.tmp 14)),.pt
 16 12 15,.m 4 16],.ret]
def vO_:LF:=⟨2,17,yN_,[.tmp 4]⟩
theorem zW_:aC_ prog Tryz.f206 vO_:=az_
theorem jS_(a b:ByteArray)  (h:List Row):PureCall prog 206 [.val (.string a),.val (.string b)] h (.val (.bool (aB_ a b))):=by
 refine av_ mixed Tryz.func206 zW_ rfl rfl ?_ h
 simp(disch:=omega)only[vO_,yN_,go_sem,seval]
 repeat' (first
  | exact am_ _ _
  | exact af_ rfl
  | simp(disch:=omega)only[go_sem,seval]
  | (refine PureCall.call (gd_ _ _) ?_)
  | (refine PureCall.q (gd_ _ _) ?_)
  | ((first|(apply bz_;assumption)|(apply by_;assumption)|(apply bS_;assumption)|(apply bT_;assumption));intro hb;try simp only[hb])
  | ((first|(apply aT_;assumption)|(apply aR_;assumption)|(apply a6_;assumption)|(apply a7_;assumption));intro hb;try simp only[hb])
  | ((first|apply aQ_|apply aZ_|apply at_|apply as_)<;>intro hb<;>(try simp only[hb])<;>(first|have hp:=br_ hb|have hp:=bn_ hb|have hp:=bq_ hb|have hp:=bp_ hb|skip)))
theorem tt_(n:Nat):bd_ .shr false (.val (.int .u64 (n:Int))) (.val (.int .u64 1))=some (.val (.int .u64 ((n / 2:Nat):Int))):=by
 rw[kI_ _ _ _ _ _ (by decide)]
 have e:(2:Int) ^ (min (1:Int).toNat IntKind.u64.bits)=2:=by decide
 rw[e,Int.fdiv_eq_ediv_of_nonneg _ (by decide),Int.natCast_ediv];rfl
theorem pD_{n:Nat}(h:n≤9223372036854775807):IntKind.u64.wrap (n:Int)=n:=by
 rw[IntKind.wrap_u64];omega
def Al_:LC :=
 .q [.o [.ki 4 0,.f 5],.o [.m 10 0,.ll 11 10,.m 6 11],.o [.m 12 6,.ki 7 0,.m 8 12],.block 0 (.loop (.q [.q [.o [.m 13 7,.m 14 8,.bb 15 .lss false 13 14],.k 15 .skip (.exit 0)],.block 1 (.q [.o [.m 16 7,.m 17
 8,.bb 18 .add false 16 17,.s 19 (.convInt .u64 (.tmp 18)),.s 20 (.bin .shr false (.tmp 19) (.const (.int .u64 1))),.s 21 (.convInt .i64 (.tmp 20)),.m 9 21],.o [.m 22 0,.m 23 9,.ia 24 1 22 23,.ln 25 24,.m 26 1,
 .c2 27 206 25 26],.k 27 (.o [.m 28 9,.bk 29 .add false 28 1,.m 7 29]) (.o [.m 30 9,.m 8 30])])])),.o [.m 31 7,.m 32 7,.m 33 6,.bb 34 .lss false 32 33,.m 35 34,.gm 36 35 true 0,.gm 37 35 true 7,.g 38 35 true
 (.indexAddr 1 (.tmp 36) (.tmp 37)),.gn 39 35 true 38,.gm 40 35 true 1,.g 41 35 true (.bin .eql false (.tmp 39) (.tmp 40)),.gm 42 35 true 41,.gm 43 42 false 0,.gm 44 42 false 7,.g 45 42 false (.indexAddr 1 (.tmp
 43) (.tmp 44)),.gn 46 42 false 45,.gc 47 42 false 207 46,.gm 48 42 false 47,.gm 49 48 true 1,.gc 50 48 true 207 49,.g 51 42 false (.pick (.tmp 48) (.tmp 50) (.const (.bool false))),.g 52 35 true (.pick (.tmp 42)
 (.const (.bool true)) (.tmp 51)),.pf 53 35 52,.m 4 31,.m 5 53],.ret]
def vU_:LF:=⟨2,54,Al_,[.tmp 4,.tmp 5]⟩
theorem y3_:aC_ prog Tryz.f162 vU_:=az_
theorem gb_(xs:List ByteArray)(key:ByteArray)(hx:xs.length≤1048576)(hr:cF_ xs=true)(h:List Row) :
 PureCall prog 162 [.list 0 1 (xs.map ak_),.val (.string key)] h (.tup [.val (.int .i64 (lbK xs key)),.val (.bool (cw_ xs key))]):=by
 refine av_ mixed Tryz.func162 y3_ rfl rfl ?_ h
 simp(disch:=omega)only[vU_,Al_,go_sem,seval]
 have hmle:=jY_ xs key
 refine a4_ (fun n t h=>∃(i j:Nat),t 0=.list 0 1 (xs.map ak_)∧t 1=.val (.string key)∧t 6=.val (.int .i64 xs.length)∧t 7=.val (.int .i64 i)∧t 8=.val (.int .i64 j)∧n=j-i∧i≤lbK xs key∧lbK xs key≤j∧j≤xs.length) xs.length ⟨0,xs.length,rfl,rfl,rfl,rfl,rfl,rfl,by omega,by omega,Nat.le_refl _⟩ ?_
 rintro J hJ n t h ⟨i,j,t0,t1,t6,t7,t8,rfl,him,hmj,hj⟩
 by_cases hij:i<j
 ·have e1:((i:Int)+(j:Int))=((i+j:Nat):Int):=by omega
  have hmid:(i+j) / 2<xs.length:=by omega
  have hq:=uW_ hr key ((i+j) / 2) hmid
  simp(disch:=omega)only[t0,t1,t7,t8,hij,e1,pD_,aA_,tt_,ak_,go_sem,seval]
  refine PureCall.call (jS_ _ _ _) ?_
  cases hl:aB_ xs[(i+j) / 2] key
  ·have hnm:¬ ((i+j) / 2<lbK xs key):=fun q=>by rw[hq.2 q]at hl;cases hl
   simp(disch:=omega)only[go_sem,seval]
   exact⟨(i+j) / 2-i,by omega,hJ _ _ _ ⟨i,(i+j) / 2,by simp[upd,t0],by simp[upd,t1],by simp[upd,t6],by simp[upd,t7],by simp[upd],rfl,him,by omega,by omega⟩⟩
  ·simp(disch:=omega)only[aA_,go_sem,seval]
   exact⟨j-((i+j) / 2+1),by omega,hJ _ _ _ ⟨(i+j) / 2+1,j,by simp[upd,t0],by simp[upd,t1],by simp[upd,t6],by simp[upd],by simp[upd,t8],rfl,by have:=hq.1 hl;omega,hmj,hj⟩⟩
 ·have him':i=lbK xs key:=by omega
  by_cases hml:lbK xs key<xs.length
  ·have hil:i<xs.length:=by omega
   subst him'
   have hfd:cw_ xs key=decide (xs[lbK xs key]=key):=by
    rw[cw_,getElem?_eq_getElem hil];simp
   simp(disch:=omega)only[t0,t1,t6,t7,t8,hij,hil,ak_,go_sem,seval]
   by_cases he:xs[lbK xs key]=key
   ·simp(disch:=omega)only[he,go_sem,seval]
    rw[hfd,decide_eq_true he]
    exact bx_ _ _ rfl
   ·have he':(xs[lbK xs key]=key)=False:=eq_false he
    simp(disch:=omega)only[t0,t7,he',ak_,go_sem,seval]
    refine PureCall.call (il_ _ _) ?_
    simp(disch:=omega)only[go_sem,seval]
    rw[hfd,decide_eq_false he]
    exact bx_ _ _ rfl
  ·have hil:¬ i<xs.length:=by omega
   subst him'
   have hfd:cw_ xs key=false:=by
    rw[cw_,getElem?_eq_none (by omega)];simp
   simp(disch:=omega)only[t6,t7,t8,hij,hil,go_sem,seval]
   rw[hfd]
   exact bx_ _ _ rfl
def zn_:LC :=
 .q [.o [.bx 2 77 0,.ki 4 0,.f 5],.o [.fa 9 1 2,.ln 10 9,.m 11 1,.c2 12 162 10 11,.m 8 12,.ex 13 8 0,.ex 14 8 1,.m 6 13,.m 7 14],.q [.o [.fa 15 0 2,.ln 16 15,.nt 17 16,.m 18 17,.gm 19 18 true 7,.pf 20 18
 19],.k 20 (.o [.m 21 6,.bk 22 .add false 21 1,.m 6 22]) .skip],.o [.m 23 6,.m 24 7,.m 4 23,.m 5 24],.ret]
def v2_:LF:=⟨2,25,zn_,[.tmp 4,.tmp 5]⟩
theorem zQ_:aC_ prog Tryz.f132 v2_:=az_
theorem kV_(p:ap_)(key:ByteArray)(hx:p.Keys.length≤1048576)(hr:cF_ p.Keys=true)(h:List Row) :
 PureCall prog 132 [.agg (ap_.cells p),.val (.string key)] h (.tup [.val (.int .i64 (aH_ p key).1),.val (.bool (aH_ p key).2)]):=by
 refine av_ mixed Tryz.func132 zQ_ rfl rfl ?_ h
 have hle:=jY_ p.Keys key
 simp(disch:=omega)only[v2_,zn_,ap_.cells,go_sem,seval]
 refine PureCall.call (gb_ _ _ hx hr _) ?_
 cases hL:p.Leaf<;>cases hF:cw_ p.Keys key<;>simp(disch:=omega)only[aH_,hL,hF,aA_,Bool.not_true,Bool.not_false,Bool.and_true,Bool.and_false,go_sem,seval]<;>exact bx_ _ _ rfl
end Go.Proofs.YtlcmlgihlojdmaaGreatDoor
