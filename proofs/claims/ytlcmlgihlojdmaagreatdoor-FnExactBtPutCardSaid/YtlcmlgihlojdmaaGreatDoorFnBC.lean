/-
 Contracts of functions. Conditions: as each theorem says.
-/
import Derived.Test.YtlcmlgihlojdmaaGreatDoorFnBB
import Derived.Test.YtlcmlgihlojdmaaGreatDoorPlOrd2
namespace Go.Proofs.YtlcmlgihlojdmaaGreatDoor
open Tryz (prog)
open List
open Go.AW
set_option linter.unusedVariables false
set_option linter.unusedSimpArgs false
set_option maxRecDepth 4000
theorem g0_{a b c:ByteArray}(h1:bP_ a b=true)(h2:bP_ b c=true):bP_ a c=true:=mP_ _ _ _ h1 h2
theorem jH_{xs:List ByteArray}(h:dc_ xs=true):∀(i j:Nat) (hj:j<xs.length) (hij:i<j),bP_ (xs[i]'(by omega)) xs[j]=true:=by
 have hk:∀k,k<xs.length→kp xs k=true:=by
  intro k hk
  rw[dc_,all_eq_true]at h
  exact h k (by simpa using hk)
 intro i j hj hij
 induction j with
 | zero=>omega
 | succ j ih =>
  have h1:=hk (j+1) hj
  rw[r4_ hj (by omega),Bool.and_eq_true]at h1
  have h2:bP_ xs[j] xs[j+1]=true:=h1.2
  rcases Nat.lt_or_ge i j with q|q
  ·exact g0_ (ih (by omega) q) h2
  ·have:i=j:=by omega
   subst this;exact h2
def lbK(xs:List ByteArray)(key:ByteArray):Nat:=(xs.takeWhile fun x=>bP_ x key).length
theorem m4_(xs:List ByteArray)(key:ByteArray):lbK xs key≤xs.length:=(takeWhile_sublist _).length_le
theorem zu_{xs:List ByteArray}{key:ByteArray}{k:Nat}(hk:k≤xs.length)(h1:∀(j:Nat) (hj:j<k),bP_ (xs[j]'(by omega)) key=true)(h2:∀(h:k<xs.length),bP_ xs[k] key=false):lbK xs key=k:=by
 induction xs generalizing k with
 | nil=>simp at hk;subst hk;rfl
 | cons x xs ih =>
  cases k with
  | zero =>
   have:=h2 (by simp)
   simp only[getElem_cons_zero]at this
   simp[lbK,this]
  | succ k =>
   have hx:=h1 0 (by omega)
   simp only[getElem_cons_zero]at hx
   have:=ih (k:=k) (by simpa using hk) (fun j hj=>by have:=h1 (j+1) (by omega);simpa using this) (fun h=>by have:=h2 (by simpa using h);simpa using this)
   simp only[lbK,takeWhile_cons,hx,if_true,lc_]at this⊢
   rw[this]
theorem uJ_{xs:List ByteArray}{key:ByteArray}{j:Nat}(hj:j<lbK xs key):bP_ (xs[j]'(by have:=m4_ xs key;omega)) key=true:=by
 induction xs generalizing j with
 | nil=>simp[lbK]at hj
 | cons x xs ih =>
  by_cases hx:bP_ x key=true
  ·cases j with
   | zero=>exact hx
   | succ j =>
    have e:lbK (x::xs) key=lbK xs key+1:=by simp[lbK,hx]
    have:=ih (j:=j) (by omega)
    simpa using this
  ·have e:lbK (x::xs) key=0:=by simp[lbK,hx]
   omega
theorem vk_{xs:List ByteArray}{key:ByteArray}(h:lbK xs key<xs.length):bP_ xs[lbK xs key] key=false:=by
 induction xs with
 | nil=>simp at h
 | cons x xs ih =>
  by_cases hx:bP_ x key=true
  ·have e:lbK (x::xs) key=lbK xs key+1:=by simp[lbK,hx]
   simp only[e,getElem_cons_succ]
   exact ih (by simp only[e,lc_]at h;omega)
  ·have e:lbK (x::xs) key=0:=by simp[lbK,hx]
   simp only[e,getElem_cons_zero]
   simpa using hx
theorem vR_{xs:List ByteArray}(hr:dc_ xs=true)(key:ByteArray)(i:Nat)(h:i<xs.length):(bP_ xs[i] key=true↔i<lbK xs key):=by
 constructor
 ·intro q
  rcases Nat.lt_or_ge i (lbK xs key)with q2|q2
  ·exact q2
  ·exfalso
   have h3:=vk_ (xs:=xs) (key:=key) (by omega)
   rcases Nat.lt_or_ge (lbK xs key) i with q3|q3
   ·have:=jH_ hr (lbK xs key) i h q3
    rw[g0_ this q]at h3;cases h3
   ·have:i=lbK xs key:=by omega
    subst this;rw[q]at h3;cases h3
 ·exact fun q=>uJ_ q
def dH_(xs:List ByteArray)(key:ByteArray):Bool:=decide (xs[lbK xs key]?=some key)
def aI_(p:am_)(key:ByteArray):Nat×Bool:=(if(!p.Leaf&&dH_ p.Keys key)=true then lbK p.Keys key+1 else lbK p.Keys key,dH_ p.Keys key)
def zM_:LC :=
 .q [.o [.f 2],.o [.m 3 0,.m 4 0,.bb 5 .neq false 3 4,.m 2 5],.ret]
def xQ_:LF:=⟨1,6,zM_,[.tmp 2]⟩
theorem AN_:aA_ prog Tryz.f207 xQ_:=as_
theorem i6_(a:ByteArray)  (h:List Row):aa_ prog 207 [.val (.string a)] h (.val (.bool false)):=by
 refine ar_ mixed Tryz.func207 AN_ rfl rfl ?_ h
 simp(disch:=omega)only[xQ_,zM_,go_sem,seval]
 repeat' (first
  | exact ah_ _ _
  | (refine ai_ ?_;simp;done)
  | simp(disch:=omega)only[go_sem,seval]
  | ((first|(apply aW_;assumption)|(apply aV_;assumption)|(apply bb_;assumption)|(apply be_;assumption));intro hb;try simp only[hb])
  | ((first|apply aB_|apply aC_)<;>intro hb<;>(try simp only[hb])<;>(first|have hp:=bx_ hb|have hp:=bw_ hb|have hp:=bu_ hb|have hp:=bv_ hb|skip)))
def Aa_:LC :=
 .q [.o [.f 2],.o [.m 3 0,.m 4 0,.bb 5 .neq false 3 4,.m 2 5],.ret]
def x0_:LF:=⟨1,6,Aa_,[.tmp 2]⟩
theorem Ar_:aA_ prog Tryz.f152 x0_:=as_
theorem gB_(a:ByteArray)  (h:List Row):aa_ prog 152 [.val (.string a)] h (.val (.bool false)):=by
 refine ar_ mixed Tryz.func152 Ar_ rfl rfl ?_ h
 simp(disch:=omega)only[x0_,Aa_,go_sem,seval]
 repeat' (first
  | exact ah_ _ _
  | (refine ai_ ?_;simp;done)
  | simp(disch:=omega)only[go_sem,seval]
  | ((first|(apply bL_;assumption)|(apply bK_;assumption)|(apply b9_;assumption)|(apply b8_;assumption));intro hb;try simp only[hb])
  | ((first|(apply aW_;assumption)|(apply aV_;assumption)|(apply bb_;assumption)|(apply be_;assumption));intro hb;try simp only[hb])
  | ((first|apply aZ_|apply a7_|apply aB_|apply aC_)<;>intro hb<;>(try simp only[hb])<;>(first|have hp:=bx_ hb|have hp:=bw_ hb|have hp:=bu_ hb|have hp:=bv_ hb|skip)))
def z9_:LC :=
 .q [.o [.f 4],.o [.m 5 0,.c1 6 152 5,.m 7 6,.gm 8 7 true 1,.gc 9 7 true 152 8,.gu 10 7 true 9,.pf 11 7 10,.m 12 11,.gm 13 12 false 0,.gm 14 12 false 1,.g 15 12 false (.bin .lss false (.tmp 13) (.tmp 14)),.pt
 16 12 15,.m 4 16],.ret]
def xk_:LF:=⟨2,17,z9_,[.tmp 4]⟩
theorem zH_:aA_ prog Tryz.f206 xk_:=as_
theorem kZ_(a b:ByteArray)  (h:List Row):aa_ prog 206 [.val (.string a),.val (.string b)] h (.val (.bool (bP_ a b))):=by
 refine ar_ mixed Tryz.func206 zH_ rfl rfl ?_ h
 simp(disch:=omega)only[xk_,z9_,go_sem,seval]
 repeat' (first
  | exact ah_ _ _
  | exact ai_ rfl
  | simp(disch:=omega)only[go_sem,seval]
  | (refine aa_.call (gB_ _ _) ?_)
  | (refine aa_.q (gB_ _ _) ?_)
  | ((first|(apply bL_;assumption)|(apply bK_;assumption)|(apply b9_;assumption)|(apply b8_;assumption));intro hb;try simp only[hb])
  | ((first|(apply aW_;assumption)|(apply aV_;assumption)|(apply bb_;assumption)|(apply be_;assumption));intro hb;try simp only[hb])
  | ((first|apply aZ_|apply a7_|apply aB_|apply aC_)<;>intro hb<;>(try simp only[hb])<;>(first|have hp:=bx_ hb|have hp:=bw_ hb|have hp:=bu_ hb|have hp:=bv_ hb|skip)))
theorem ur_(n:Nat):bl_ .shr false (.val (.int .u64 (n:Int))) (.val (.int .u64 1))=some (.val (.int .u64 ((n / 2:Nat):Int))):=by
 rw[lB_ _ _ _ _ _ (by decide)]
 have e:(2:Int) ^ (min (1:Int).toNat IntKind.u64.bits)=2:=by decide
 rw[e,Int.fdiv_eq_ediv_of_nonneg _ (by decide),Int.natCast_ediv];rfl
theorem pZ_{n:Nat}(h:n≤9223372036854775807):IntKind.u64.wrap (n:Int)=n:=by
 rw[IntKind.wrap_u64];omega
def Bg_:LC :=
 .q [.o [.ki 4 0,.f 5],.o [.m 10 0,.ll 11 10,.m 6 11],.o [.m 12 6,.ki 7 0,.m 8 12],.block 0 (.loop (.q [.q [.o [.m 13 7,.m 14 8,.bb 15 .lss false 13 14],.k 15 .skip (.exit 0)],.block 1 (.q [.o [.m 16 7,.m 17
 8,.bb 18 .add false 16 17,.s 19 (.convInt .u64 (.tmp 18)),.s 20 (.bin .shr false (.tmp 19) (.const (.int .u64 1))),.s 21 (.convInt .i64 (.tmp 20)),.m 9 21],.o [.m 22 0,.m 23 9,.ia 24 1 22 23,.ln 25 24,.m 26 1,
 .c2 27 206 25 26],.k 27 (.o [.m 28 9,.bk 29 .add false 28 1,.m 7 29]) (.o [.m 30 9,.m 8 30])])])),.o [.m 31 7,.m 32 7,.m 33 6,.bb 34 .lss false 32 33,.m 35 34,.gm 36 35 true 0,.gm 37 35 true 7,.g 38 35 true
 (.indexAddr 1 (.tmp 36) (.tmp 37)),.gn 39 35 true 38,.gm 40 35 true 1,.g 41 35 true (.bin .eql false (.tmp 39) (.tmp 40)),.gm 42 35 true 41,.gm 43 42 false 0,.gm 44 42 false 7,.g 45 42 false (.indexAddr 1 (.tmp
 43) (.tmp 44)),.gn 46 42 false 45,.gc 47 42 false 207 46,.gm 48 42 false 47,.gm 49 48 true 1,.gc 50 48 true 207 49,.g 51 42 false (.pick (.tmp 48) (.tmp 50) (.const (.bool false))),.g 52 35 true (.pick (.tmp 42)
 (.const (.bool true)) (.tmp 51)),.pf 53 35 52,.m 4 31,.m 5 53],.ret]
def xB_:LF:=⟨2,54,Bg_,[.tmp 4,.tmp 5]⟩
theorem AL_:aA_ prog Tryz.f162 xB_:=as_
theorem gy_(xs:List ByteArray)(key:ByteArray)(hx:xs.length≤1048576)(hr:dc_ xs=true)(h:List Row) :
 aa_ prog 162 [.list 0 1 (xs.map ag_),.val (.string key)] h (.tup [.val (.int .i64 (lbK xs key)),.val (.bool (dH_ xs key))]):=by
 refine ar_ mixed Tryz.func162 AL_ rfl rfl ?_ h
 simp(disch:=omega)only[xB_,Bg_,go_sem,seval]
 have hmle:=m4_ xs key
 refine aK_ (fun n t h=>∃(i j:Nat),t 0=.list 0 1 (xs.map ag_)∧t 1=.val (.string key)∧t 6=.val (.int .i64 xs.length)∧t 7=.val (.int .i64 i)∧t 8=.val (.int .i64 j)∧n=j-i∧i≤lbK xs key∧lbK xs key≤j∧j≤xs.length) xs.length ⟨0,xs.length,rfl,rfl,rfl,rfl,rfl,rfl,by omega,by omega,Nat.le_refl _⟩ ?_
 rintro J hJ n t h ⟨i,j,t0,t1,t6,t7,t8,rfl,him,hmj,hj⟩
 by_cases hij:i<j
 ·have e1:((i:Int)+(j:Int))=((i+j:Nat):Int):=by omega
  have hmid:(i+j) / 2<xs.length:=by omega
  have hq:=vR_ hr key ((i+j) / 2) hmid
  simp(disch:=omega)only[t0,t1,t7,t8,hij,e1,pZ_,au_,ur_,ag_,go_sem,seval]
  refine aa_.call (kZ_ _ _ _) ?_
  cases hl:bP_ xs[(i+j) / 2] key
  ·have hnm:¬ ((i+j) / 2<lbK xs key):=fun q=>by rw[hq.2 q]at hl;cases hl
   simp(disch:=omega)only[go_sem,seval]
   exact⟨(i+j) / 2-i,by omega,hJ _ _ _ ⟨i,(i+j) / 2,by simp[upd,t0],by simp[upd,t1],by simp[upd,t6],by simp[upd,t7],by simp[upd],rfl,him,by omega,by omega⟩⟩
  ·simp(disch:=omega)only[au_,go_sem,seval]
   exact⟨j-((i+j) / 2+1),by omega,hJ _ _ _ ⟨(i+j) / 2+1,j,by simp[upd,t0],by simp[upd,t1],by simp[upd,t6],by simp[upd],by simp[upd,t8],rfl,by have:=hq.1 hl;omega,hmj,hj⟩⟩
 ·have him':i=lbK xs key:=by omega
  by_cases hml:lbK xs key<xs.length
  ·have hil:i<xs.length:=by omega
   subst him'
   have hfd:dH_ xs key=decide (xs[lbK xs key]=key):=by
    rw[dH_,getElem?_eq_getElem hil];simp
   simp(disch:=omega)only[t0,t1,t6,t7,t8,hij,hil,ag_,go_sem,seval]
   by_cases he:xs[lbK xs key]=key
   ·simp(disch:=omega)only[he,go_sem,seval]
    rw[hfd,decide_eq_true he]
    exact bN_ _ _ rfl
   ·have he':(xs[lbK xs key]=key)=False:=eq_false he
    simp(disch:=omega)only[t0,t7,he',ag_,go_sem,seval]
    refine aa_.call (i6_ _ _) ?_
    simp(disch:=omega)only[go_sem,seval]
    rw[hfd,decide_eq_false he]
    exact bN_ _ _ rfl
  ·have hil:¬ i<xs.length:=by omega
   subst him'
   have hfd:dH_ xs key=false:=by
    rw[dH_,getElem?_eq_none (by omega)];simp
   simp(disch:=omega)only[t6,t7,t8,hij,hil,go_sem,seval]
   rw[hfd]
   exact bN_ _ _ rfl
def zN_:LC :=
 .q [.o [.bx 2 77 0,.ki 4 0,.f 5],.o [.fa 9 1 2,.ln 10 9,.m 11 1,.c2 12 162 10 11,.m 8 12,.ex 13 8 0,.ex 14 8 1,.m 6 13,.m 7 14],.q [.o [.fa 15 0 2,.ln 16 15,.nt 17 16,.m 18 17,.gm 19 18 true 7,.pf 20 18
 19],.k 20 (.o [.m 21 6,.bk 22 .add false 21 1,.m 6 22]) .skip],.o [.m 23 6,.m 24 7,.m 4 23,.m 5 24],.ret]
def xX_:LF:=⟨2,25,zN_,[.tmp 4,.tmp 5]⟩
theorem zR_:aA_ prog Tryz.f132 xX_:=as_
theorem lJ_(p:am_)(key:ByteArray)(hx:p.Keys.length≤1048576)(hr:dc_ p.Keys=true)(h:List Row) :
 aa_ prog 132 [.agg (am_.cells p),.val (.string key)] h (.tup [.val (.int .i64 (aI_ p key).1),.val (.bool (aI_ p key).2)]):=by
 refine ar_ mixed Tryz.func132 zR_ rfl rfl ?_ h
 have hle:=m4_ p.Keys key
 simp(disch:=omega)only[xX_,zN_,am_.cells,go_sem,seval]
 refine aa_.call (gy_ _ _ hx hr _) ?_
 cases hL:p.Leaf<;>cases hF:dH_ p.Keys key<;>simp(disch:=omega)only[aI_,hL,hF,au_,Bool.not_true,Bool.not_false,Bool.and_true,Bool.and_false,go_sem,seval]<;>exact bN_ _ _ rfl
end Go.Proofs.YtlcmlgihlojdmaaGreatDoor
