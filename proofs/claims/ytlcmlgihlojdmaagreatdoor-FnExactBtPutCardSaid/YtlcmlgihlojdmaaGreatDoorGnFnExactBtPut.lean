/-
 Contracts of functions. Conditions: as each theorem says.
-/
import Derived.Test.YtlcmlgihlojdmaaGreatDoorBase
namespace Go.Proofs.YtlcmlgihlojdmaaGreatDoor
open Tryz (prog)
open List
open Go.AW
set_option linter.unusedVariables false
set_option linter.unusedSimpArgs false
set_option maxRecDepth 20000
def c44:LC :=
 .q [.o [.ki 4 0],.o [.m 6 1,.m 7 0,.ll 8 7,.bb 9 .sub false 6 8,.m 1 9],.q [.o [.m 10 1,.bk 11 .lss false 10 0],.k 11 (.q [.o [.s 4 (.mov (.const (.int .i64 (-1))))],.ret]) .skip],.q [.o [.ki 5 0],.block 0
 (.loop (.q [.q [.o [.m 12 5,.m 13 0,.ll 14 13,.bb 15 .lss false 12 14],.k 15 .skip (.exit 0)],.block 1 (.q [.o [.m 18 1,.m 19 0,.m 20 5,.ia 21 1 19 20,.ln 22 21,.s 23 (.lenStr (.tmp 22)),.bb 24 .sub false 18
 23,.m 1 24],.o [.m 25 1,.bk 26 .lss false 25 0],.k 26 (.q [.o [.s 4 (.mov (.const (.int .i64 (-1))))],.ret]) .skip]),.o [.m 16 5,.bk 17 .add false 16 1,.m 5 17]]))],.o [.m 27 1,.m 4 27],.ret]
def BE_:LF:=⟨2,28,c44,[.tmp 4]⟩
theorem CR_:aA_ prog Tryz.f44 BE_:=as_
def c47:LC :=
 .q [.o [.nl 2],.o [.m 5 0,.ll 6 5,.s 7 (.mkSlice 9 1 16 (.string ⟨#[]⟩) (.tmp 6) (.tmp 6)),.m 3 7],.q [.o [.ki 4 0],.block 0 (.loop (.q [.q [.o [.m 8 4,.m 9 0,.ll 10 9,.bb 11 .lss false 8 10],.k 11 .skip (.exit
 0)],.block 1 (.o [.m 14 3,.m 15 4,.m 16 0,.m 17 4,.ia 18 1 16 17,.ln 19 18,.ia 20 1 14 15,.st 1 20 19]),.o [.m 12 4,.bk 13 .add false 12 1,.m 4 13]]))],.o [.m 21 3,.m 2 21],.ret]
def v3_:LF:=⟨1,22,c47,[.tmp 2]⟩
theorem yb_:aA_ prog Tryz.f47 v3_:=as_
def c50:LC :=
 .q [.o [.f 4],.q [.o [.m 6 0,.ll 7 6,.m 8 1,.ll 9 8,.bb 10 .neq false 7 9],.k 10 (.q [.o [.f 4],.ret]) .skip],.q [.o [.ki 5 0],.block 0 (.loop (.q [.q [.o [.m 11 5,.m 12 0,.ll 13 12,.bb 14 .lss false 11 13],
 .k 14 .skip (.exit 0)],.block 1 (.q [.dops [.m 17 0,.m 18 5,.ia 19 1 17 18,.ln 20 19,.m 21 1,.m 22 5,.ia 23 1 21 22,.ln 24 23,.bb 25 .neq false 20 24],.k 25 (.q [.o [.f 4],.ret]) .skip]),.o [.m 15 5,.bk 16
 .add false 15 1,.m 5 16]]))],.o [.t 4],.ret]
def zn_:LF:=⟨2,26,c50,[.tmp 4]⟩
theorem C2_:aA_ prog Tryz.f50 zn_:=as_
def Am_:LC :=
 .q [.o [.ki 4 0],.o [.m 5 1,.m 6 0,.ll 7 6,.bb 8 .sub false 5 7,.m 1 8],.q [.o [.m 9 1,.bk 10 .lss false 9 0],.k 10 (.q [.o [.s 4 (.mov (.const (.int .i64 (-1))))],.ret]) .skip],.o [.m 11 1,.m 4 11],.ret]
def xY_:LF:=⟨2,12,Am_,[.tmp 4]⟩
theorem By_:aA_ prog Tryz.f153 xY_:=as_
def wS_:LC :=
 .q [.o [.nl 2],.o [.m 5 0,.ll 6 5,.s 7 (.mkSlice 2 1 8 (.int .i64 0) (.tmp 6) (.tmp 6)),.m 3 7],.q [.o [.ki 4 0],.block 0 (.loop (.q [.q [.o [.m 8 4,.m 9 0,.ll 10 9,.bb 11 .lss false 8 10],.k 11 .skip (.exit
 0)],.block 1 (.o [.m 14 3,.m 15 4,.m 16 0,.m 17 4,.ia 18 1 16 17,.ln 19 18,.ia 20 1 14 15,.st 1 20 19]),.o [.m 12 4,.bk 13 .add false 12 1,.m 4 13]]))],.o [.m 21 3,.m 2 21],.ret]
def tb_:LF:=⟨1,22,wS_,[.tmp 2]⟩
theorem tQ_:aA_ prog Tryz.f155 tb_:=as_
def BL_:LC :=
 .q [.o [.f 4],.q [.o [.m 6 0,.ll 7 6,.m 8 1,.ll 9 8,.bb 10 .neq false 7 9],.k 10 (.q [.o [.f 4],.ret]) .skip],.q [.o [.ki 5 0],.block 0 (.loop (.q [.q [.o [.m 11 5,.m 12 0,.ll 13 12,.bb 14 .lss false 11 13],
 .k 14 .skip (.exit 0)],.block 1 (.q [.dops [.m 17 0,.m 18 5,.ia 19 1 17 18,.ln 20 19,.m 21 1,.m 22 5,.ia 23 1 21 22,.ln 24 23,.bb 25 .neq false 20 24],.k 25 (.q [.o [.f 4],.ret]) .skip]),.o [.m 15 5,.bk 16
 .add false 15 1,.m 5 16]]))],.o [.t 4],.ret]
def xh_:LF:=⟨2,26,BL_,[.tmp 4]⟩
theorem BS_:aA_ prog Tryz.f177 xh_:=as_
def Bk_:LC :=
 .q [.o [.bx 2 97 0,.ki 4 0],.o [.fa 5 1 2,.ln 6 5,.m 7 1,.c2 8 44 6 7,.m 1 8],.q [.o [.m 9 1,.bk 10 .lss false 9 0],.k 10 (.q [.o [.s 4 (.mov (.const (.int .i64 (-1))))],.ret]) .skip],.o [.fa 11 2 2,.ln 12
 11,.m 13 1,.c2 14 44 12 13,.m 1 14],.q [.o [.m 15 1,.bk 16 .lss false 15 0],.k 16 (.q [.o [.s 4 (.mov (.const (.int .i64 (-1))))],.ret]) .skip],.o [.fa 17 3 2,.ln 18 17,.m 19 1,.c2 20 153 18 19,.m 1 20],.q
 [.o [.m 21 1,.bk 22 .lss false 21 0],.k 22 (.q [.o [.s 4 (.mov (.const (.int .i64 (-1))))],.ret]) .skip],.o [.m 23 1,.m 4 23],.ret]
def yh_:LF:=⟨2,24,Bk_,[.tmp 4]⟩
theorem B0_:aA_ prog Tryz.f111 yh_:=as_
def w2_:LC :=
 .q [.o [.bx 1 97 0,.s 2 (.alloc 77 z0z)],.o [.s 3 (.alloc 77 z0z)],.o [.fa 4 0 1,.ln 5 4,.fa 6 0 3,.st 1 6 5],.o [.fa 7 1 1,.ln 8 7,.c1 9 47 8,.fa 10 1 3,.st 1 10 9],.o [.fa 11 2 1,.ln 12 11,.c1 13 47 12,
 .fa 14 2 3,.st 1 14 13],.o [.fa 15 3 1,.ln 16 15,.c1 17 155 16,.fa 18 3 3,.st 1 18 17],.o [.ld 19 4 3,.st 4 2 19],.ret]
def tD_:LF:=⟨1,20,w2_,[.cell 2 (some 4)]⟩
theorem u1_:aA_ prog Tryz.f120 tD_:=as_
def Bd_:LC :=
 .q [.o [.bx 2 77 0,.bx 3 77 1,.f 4],.q [.o [.fa 5 0 2,.ln 6 5,.fa 7 0 3,.ln 8 7,.bb 9 .neq true 6 8],.k 9 (.q [.o [.f 4],.ret]) .skip],.q [.o [.fa 10 1 2,.ln 11 10,.fa 12 1 3,.ln 13 12,.c2 14 50 11 13,.nt
 15 14],.k 15 (.q [.o [.f 4],.ret]) .skip],.q [.o [.fa 16 2 2,.ln 17 16,.fa 18 2 3,.ln 19 18,.c2 20 50 17 19,.nt 21 20],.k 21 (.q [.o [.f 4],.ret]) .skip],.q [.o [.fa 22 3 2,.ln 23 22,.fa 24 3 3,.ln 25 24,
 .c2 26 177 23 25,.nt 27 26],.k 27 (.q [.o [.f 4],.ret]) .skip],.o [.t 4],.ret]
def xo_:LF:=⟨2,28,Bd_,[.tmp 4]⟩
theorem AJ_:aA_ prog Tryz.f139 xo_:=as_
def c63:LC :=
 .q [.o [.bx 2 99 0,.ki 4 0],.o [.fa 5 1 2,.ld 6 4 5,.m 7 1,.c2 8 111 6 7,.m 1 8],.q [.o [.m 9 1,.bk 10 .lss false 9 0],.k 10 (.q [.o [.s 4 (.mov (.const (.int .i64 (-1))))],.ret]) .skip],.o [.m 11 1,.m 4 11],
 .ret]
def Ap_:LF:=⟨2,12,c63,[.tmp 4]⟩
theorem Ch_:aA_ prog Tryz.f63 Ap_:=as_
def c72:LC :=
 .q [.o [.bx 1 99 0,.s 2 (.alloc 79 z2z)],.o [.s 3 (.alloc 79 z2z)],.o [.fa 4 0 1,.ln 5 4,.fa 6 0 3,.st 1 6 5],.o [.fa 7 1 1,.ld 8 4 7,.c1 9 120 8,.fa 10 1 3,.st 4 10 9],.o [.ld 11 5 3,.st 5 2 11],.ret]
def wt_:LF:=⟨1,12,c72,[.cell 2 (some 5)]⟩
theorem yj_:aA_ prog Tryz.f72 wt_:=as_
def c85:LC :=
 .q [.o [.bx 2 79 0,.bx 3 79 1,.f 4],.q [.o [.fa 5 0 2,.ln 6 5,.fa 7 0 3,.ln 8 7,.bb 9 .neq false 6 8],.k 9 (.q [.o [.f 4],.ret]) .skip],.q [.o [.fa 10 1 2,.ld 11 4 10,.fa 12 1 3,.ld 13 4 12,.c2 14 139 11
 13,.nt 15 14],.k 15 (.q [.o [.f 4],.ret]) .skip],.o [.t 4],.ret]
def AX_:LF:=⟨2,16,c85,[.tmp 4]⟩
theorem C1_:aA_ prog Tryz.f85 AX_:=as_
def c31:LC :=
 .q [.o [.ki 4 0],.o [.m 6 1,.m 7 0,.ll 8 7,.bb 9 .sub false 6 8,.m 1 9],.q [.o [.m 10 1,.bk 11 .lss false 10 0],.k 11 (.q [.o [.s 4 (.mov (.const (.int .i64 (-1))))],.ret]) .skip],.q [.o [.ki 5 0],.block 0
 (.loop (.q [.q [.o [.m 12 5,.m 13 0,.ll 14 13,.bb 15 .lss false 12 14],.k 15 .skip (.exit 0)],.block 1 (.q [.o [.m 18 0,.m 19 5,.ia 20 5 18 19,.ld 21 5 20,.m 22 1,.c2 23 63 21 22,.m 1 23],.o [.m 24 1,.bk 25
 .lss false 24 0],.k 25 (.q [.o [.s 4 (.mov (.const (.int .i64 (-1))))],.ret]) .skip]),.o [.m 16 5,.bk 17 .add false 16 1,.m 5 17]]))],.o [.m 26 1,.m 4 26],.ret]
def zF_:LF:=⟨2,27,c31,[.tmp 4]⟩
theorem CH_:aA_ prog Tryz.f31 zF_:=as_
def c34:LC :=
 .q [.o [.nl 2],.o [.m 5 0,.ll 6 5,.s 7 (.mkSlice 79 5 88 z2z (.tmp 6) (.tmp 6)),.m 3 7],.q [.o [.ki 4 0],.block 0 (.loop (.q [.q [.o [.m 8 4,.m 9 0,.ll 10 9,.bb 11 .lss false 8 10],.k 11 .skip (.exit 0)],
 .block 1 (.o [.m 14 3,.m 15 4,.m 16 0,.m 17 4,.ia 18 5 16 17,.ld 19 5 18,.c1 20 72 19,.ia 21 5 14 15,.st 5 21 20]),.o [.m 12 4,.bk 13 .add false 12 1,.m 4 13]]))],.o [.m 22 3,.m 2 22],.ret]
def vx_:LF:=⟨1,23,c34,[.tmp 2]⟩
theorem x6_:aA_ prog Tryz.f34 vx_:=as_
def c41:LC :=
 .q [.o [.f 4],.q [.o [.m 6 0,.ll 7 6,.m 8 1,.ll 9 8,.bb 10 .neq false 7 9],.k 10 (.q [.o [.f 4],.ret]) .skip],.q [.o [.ki 5 0],.block 0 (.loop (.q [.q [.o [.m 11 5,.m 12 0,.ll 13 12,.bb 14 .lss false 11 13],
 .k 14 .skip (.exit 0)],.block 1 (.q [.dops [.m 17 0,.m 18 5,.ia 19 5 17 18,.ld 20 5 19,.m 21 1,.m 22 5,.ia 23 5 21 22,.ld 24 5 23,.c2 25 85 20 24,.nt 26 25],.k 26 (.q [.o [.f 4],.ret]) .skip]),.o [.m 15 5,
 .bk 16 .add false 15 1,.m 5 16]]))],.o [.t 4],.ret]
def AZ_:LF:=⟨2,27,c41,[.tmp 4]⟩
theorem Cm_:aA_ prog Tryz.f41 AZ_:=as_
def c7:LC :=
 .q [.o [.bx 2 24 0,.ki 4 0],.o [.fa 5 1 2,.ln 6 5,.m 7 1,.c2 8 31 6 7,.m 1 8],.q [.o [.m 9 1,.bk 10 .lss false 9 0],.k 10 (.q [.o [.s 4 (.mov (.const (.int .i64 (-1))))],.ret]) .skip],.o [.m 11 1,.m 4 11],
 .ret]
def lf7:LF:=⟨2,12,c7,[.tmp 4]⟩
theorem Dg_:aA_ prog Tryz.f7 lf7:=as_
def c9:LC :=
 .q [.o [.bx 1 24 0,.s 2 (.alloc 28 z1z)],.o [.s 3 (.alloc 28 z1z)],.o [.fa 4 0 1,.ln 5 4,.fa 6 0 3,.st 1 6 5],.o [.fa 7 1 1,.ln 8 7,.c1 9 34 8,.fa 10 1 3,.st 1 10 9],.o [.ld 11 2 3,.st 2 2 11],.ret]
def lf9:LF:=⟨1,12,c9,[.cell 2 (some 2)]⟩
theorem Bm_:aA_ prog Tryz.f9 lf9:=as_
def c11:LC :=
 .q [.o [.bx 2 28 0,.bx 3 28 1,.f 4],.q [.o [.fa 5 0 2,.ln 6 5,.fa 7 0 3,.ln 8 7,.bb 9 .neq false 6 8],.k 9 (.q [.o [.f 4],.ret]) .skip],.q [.o [.fa 10 1 2,.ln 11 10,.fa 12 1 3,.ln 13 12,.c2 14 41 11 13,.nt
 15 14],.k 15 (.q [.o [.f 4],.ret]) .skip],.o [.t 4],.ret]
def z7_:LF:=⟨2,16,c11,[.tmp 4]⟩
theorem Cp_:aA_ prog Tryz.f11 z7_:=as_
theorem kP_(xs:List ByteArray)(l:Int)(h0:0≤l)(h1:l≤1048576)(hw:eL_ dX_ xs)(h:List Row):aa_ prog 44 [.list 0 1 (xs.map ag_),.val (.int .i64 l)] h (.val (.int .i64 (szR (az_ ByteArray.size xs) l))):=by
 obtain⟨hx,hs⟩:=hw
 refine ar_ mixed Tryz.func44 CR_ rfl rfl ?_ h
 simp(disch:=omega)only[BE_,c44,aw_,go_sem,seval,au_]
 refine⟨fun hn=>?_,fun hn=>?_⟩
 ·rw[cR_ (by simp only[az_];omega)];exact ah_ _ _
 ·refine aK_ (fun n t h=>∃(k:Nat) (m:Int),t 0=.list 0 1 (xs.map ag_)∧t 5=.val (.int .i64 k)∧t 1=.val (.int .i64 m)∧h=[]∧n=xs.length-k∧k≤xs.length∧0≤m∧m≤1048576∧szR (az_ ByteArray.size xs) l=szR (cV_ ByteArray.size (xs.drop k)) m) xs.length ?_ ?_
  ·exact⟨0,l-xs.length,rfl,rfl,rfl,rfl,rfl,Nat.zero_le _,by omega,by omega,lt_ (by omega)⟩
  ·rintro J hJ n t h ⟨k,m,t0,t5,t1,rfl,rfl,hk,hm0,hm1,hS⟩
   by_cases hlt:k<xs.length
   ·have hd:=nf_ ByteArray.size xs k hlt
    have hwk:=hs _ (getElem_mem hlt)
    rw[hd]at hS
    unfold dX_ at hwk
    simp(disch:=omega)only[t0,t5,t1,hlt,aw_,go_sem,seval,au_]
    refine⟨fun hn2=>?_,fun hn2=>?_⟩
    ·rw[hS,cR_ (by omega)];exact ah_ _ _
    ·exact⟨xs.length-(k+1),by omega,hJ _ _ _ ⟨k+1,m-xs[k].size,by simp[upd,t0],by simp[upd],by simp[upd],rfl,rfl,by omega,by omega,by omega,by rw[hS,lt_ (by omega)]⟩⟩
   ·simp(disch:=omega)only[t0,t5,t1,hlt,aw_,go_sem,seval]
    rw[hS,drop_eq_nil_of_le (by omega),dz_ (by simp only[cV_];omega)]
    simp only[cV_,Int.natCast_zero,Int.sub_zero]
    exact ah_ _ _
theorem kz_(xs:List ByteArray)(hb:(az_ ByteArray.size) xs≤1048576)(h:List Row):aa_ prog 47 [.list 0 1 (xs.map ag_)] h (.list 0 1 (xs.map ag_)):=by
 have hx:=Nat.le_trans (bU_ (f:=ByteArray.size) (xs:=xs)) hb
 refine ar_ mixed Tryz.func47 yb_ rfl rfl ?_ h
 simp(disch:=omega)only[v3_,c47,go_sem,seval]
 refine⟨by omega,by omega,?_⟩
 refine aK_ (fun n t h=>∃k:Nat,t 0=.list 0 1 (xs.map ag_)∧t 3=.own 0 xs.length∧t 4=.val (.int .i64 k)∧h=[⟨9,1,bI_ (xs.map ag_) [.val (.string ⟨#[]⟩)] k⟩]∧n=xs.length-k∧k≤xs.length) xs.length ?_ ?_
 ·exact⟨0,rfl,rfl,rfl,by rw[fF_];simp,rfl,Nat.zero_le _⟩
 ·rintro J hJ n t h ⟨k,t0,t3,t4,rfl,rfl,hk⟩
  have fl:(bI_ (xs.map ag_) [.val (.string ⟨#[]⟩)] k).length=xs.length:=by rw[eH_ _ _ (by simpa using hk)];simp
  by_cases hlt:k<xs.length
  ·have fg:(bI_ (xs.map ag_) [.val (.string ⟨#[]⟩)] k)[k]?=some [.val (.string ⟨#[]⟩)]:=gl_ _ _ (by simpa using hlt)
   have fs:=fB_ (xs.map ag_) [.val (.string ⟨#[]⟩)] (ag_ xs[k]) (k:=k) (by rw[getElem?_map,getElem?_eq_getElem hlt];rfl)
   simp(disch:=omega)only[t0,t3,t4,hlt,fl,fg,aw_,go_sem,seval,au_]
   try simp(disch:=omega)only[fs,go_sem]
   exact⟨xs.length-(k+1),by omega,hJ _ _ _ ⟨k+1,by simp[upd,t0],by simp[upd,t3],by simp[upd],by simp[],rfl,by omega⟩⟩
  ·simp(disch:=omega)only[t0,t3,t4,hlt,fl,aw_,go_sem,seval]
   have ff:bI_ (xs.map ag_) [.val (.string ⟨#[]⟩)] k=xs.map ag_:=ga_ _ _ (by simp;omega)
   rw[ff]
   exact ec_ (r:=⟨9,1,xs.map ag_⟩) rfl (by simp) (by intro e he;obtain⟨x,_,q⟩:=mem_map.1 he;subst q;rfl)
theorem li_(xs:List ByteArray)(hb:(az_ ByteArray.size) xs≤1048576)(h:List Row):aa_ prog 50 [.list 0 1 (xs.map ag_),.list 0 1 (xs.map ag_)] h (.val (.bool true)):=by
 have hx:=Nat.le_trans (bU_ (f:=ByteArray.size) (xs:=xs)) hb
 refine ar_ mixed Tryz.func50 C2_ rfl rfl ?_ h
 simp(disch:=omega)only[zn_,c50,aw_,go_sem,seval]
 refine aK_ (fun n t h=>∃k:Nat,t 0=.list 0 1 (xs.map ag_)∧t 1=.list 0 1 (xs.map ag_)∧t 5=.val (.int .i64 k)∧h=[]∧n=xs.length-k∧k≤xs.length) xs.length ?_ ?_
 ·exact⟨0,rfl,rfl,rfl,rfl,rfl,Nat.zero_le _⟩
 ·rintro J hJ n t h ⟨k,t0,t1,t5,rfl,rfl,hk⟩
  by_cases hlt:k<xs.length
  ·simp(disch:=omega)only[t0,t1,t5,hlt,aw_,go_sem,seval,au_]
   exact⟨xs.length-(k+1),by omega,hJ _ _ _ ⟨k+1,by simp[upd,t0],by simp[upd,t1],by simp[upd],rfl,rfl,by omega⟩⟩
  ·simp(disch:=omega)only[t0,t1,t5,hlt,aw_,go_sem,seval,au_]
   exact ah_ _ _
theorem rg_(xs:List Int)(l:Int)(h0:0≤l)(h1:l≤1048576)(hw:eL_ hE_ xs)(h:List Row):aa_ prog 153 [.list 0 1 (xs.map ay_),.val (.int .i64 l)] h (.val (.int .i64 (szR (az_ (fun _=>0) xs) l))):=by
 obtain⟨hx,hs⟩:=hw
 refine ar_ mixed Tryz.func153 By_ rfl rfl ?_ h
 simp(disch:=omega)only[xY_,Am_,aw_,go_sem,seval,au_]
 refine⟨fun hn=>?_,fun hn=>?_⟩
 ·rw[cR_ (by simp only[az_];omega)];exact ah_ _ _
 ·have:cV_ (fun _:Int=>0) xs=0:=by
   clear hx hs h0 h1 hn
   induction xs with
   | nil=>rfl
   | cons x xs ih=>simp[cV_,ih]
  rw[dz_ (by simp only[az_];omega)];simp only[az_,this];exact ah_ _ _
theorem rU_(xs:List Int)(hb:(az_ (fun _=>0)) xs≤1048576)(h:List Row):aa_ prog 155 [.list 0 1 (xs.map ay_)] h (.list 0 1 (xs.map ay_)):=by
 have hx:=Nat.le_trans (bU_ (f:=(fun _=>0)) (xs:=xs)) hb
 refine ar_ mixed Tryz.func155 tQ_ rfl rfl ?_ h
 simp(disch:=omega)only[tb_,wS_,go_sem,seval]
 refine⟨by omega,by omega,?_⟩
 refine aK_ (fun n t h=>∃k:Nat,t 0=.list 0 1 (xs.map ay_)∧t 3=.own 0 xs.length∧t 4=.val (.int .i64 k)∧h=[⟨2,1,bI_ (xs.map ay_) [.val (.int .i64 0)] k⟩]∧n=xs.length-k∧k≤xs.length) xs.length ?_ ?_
 ·exact⟨0,rfl,rfl,rfl,by rw[fF_];simp,rfl,Nat.zero_le _⟩
 ·rintro J hJ n t h ⟨k,t0,t3,t4,rfl,rfl,hk⟩
  have fl:(bI_ (xs.map ay_) [.val (.int .i64 0)] k).length=xs.length:=by rw[eH_ _ _ (by simpa using hk)];simp
  by_cases hlt:k<xs.length
  ·have fg:(bI_ (xs.map ay_) [.val (.int .i64 0)] k)[k]?=some [.val (.int .i64 0)]:=gl_ _ _ (by simpa using hlt)
   have fs:=fB_ (xs.map ay_) [.val (.int .i64 0)] (ay_ xs[k]) (k:=k) (by rw[getElem?_map,getElem?_eq_getElem hlt];rfl)
   simp(disch:=omega)only[t0,t3,t4,hlt,fl,fg,aw_,go_sem,seval,au_]
   try simp(disch:=omega)only[fs,go_sem]
   exact⟨xs.length-(k+1),by omega,hJ _ _ _ ⟨k+1,by simp[upd,t0],by simp[upd,t3],by simp[upd],by simp[],rfl,by omega⟩⟩
  ·simp(disch:=omega)only[t0,t3,t4,hlt,fl,aw_,go_sem,seval]
   have ff:bI_ (xs.map ay_) [.val (.int .i64 0)] k=xs.map ay_:=ga_ _ _ (by simp;omega)
   rw[ff]
   exact ec_ (r:=⟨2,1,xs.map ay_⟩) rfl (by simp) (by intro e he;obtain⟨x,_,q⟩:=mem_map.1 he;subst q;rfl)
theorem ry_(xs:List Int)(hb:(az_ (fun _=>0)) xs≤1048576)(h:List Row):aa_ prog 177 [.list 0 1 (xs.map ay_),.list 0 1 (xs.map ay_)] h (.val (.bool true)):=by
 have hx:=Nat.le_trans (bU_ (f:=(fun _=>0)) (xs:=xs)) hb
 refine ar_ mixed Tryz.func177 BS_ rfl rfl ?_ h
 simp(disch:=omega)only[xh_,BL_,aw_,go_sem,seval]
 refine aK_ (fun n t h=>∃k:Nat,t 0=.list 0 1 (xs.map ay_)∧t 1=.list 0 1 (xs.map ay_)∧t 5=.val (.int .i64 k)∧h=[]∧n=xs.length-k∧k≤xs.length) xs.length ?_ ?_
 ·exact⟨0,rfl,rfl,rfl,rfl,rfl,Nat.zero_le _⟩
 ·rintro J hJ n t h ⟨k,t0,t1,t5,rfl,rfl,hk⟩
  by_cases hlt:k<xs.length
  ·simp(disch:=omega)only[t0,t1,t5,hlt,aw_,go_sem,seval,au_]
   exact⟨xs.length-(k+1),by omega,hJ _ _ _ ⟨k+1,by simp[upd,t0],by simp[upd,t1],by simp[upd],rfl,rfl,by omega⟩⟩
  ·simp(disch:=omega)only[t0,t1,t5,hlt,aw_,go_sem,seval,au_]
   exact ah_ _ _
theorem uR_(x:am_)(l:Int)(h0:0≤l)(h1:l≤1048576)(hw:am_.wf x)(h:List Row):aa_ prog 111 [.agg (am_.cells x),.val (.int .i64 l)] h (.val (.int .i64 (szR (am_.sz x) l))):=by
 obtain⟨w_Leaf,w_Keys,w_Vals,w_Kids,_⟩:=hw
 have hsz:am_.sz x=(az_ ByteArray.size) x.Keys+(az_ ByteArray.size) x.Vals+(az_ (fun _=>0)) x.Kids:=rfl
 refine ar_ mixed Tryz.func111 B0_ rfl rfl ?_ h
 simp(disch:=omega)only[yh_,Bk_,am_.cells,go_sem,seval]
 refine aa_.call (kP_ x.Keys (l) (by omega) (by omega) w_Keys _) ?_
 by_cases hn_Keys:((az_ ByteArray.size) x.Keys:Int)≤l
 case neg =>
  rw[cR_ (n:=(az_ ByteArray.size) x.Keys) (l:=l) (by omega)]
  simp(disch:=omega)only[aw_,go_sem,seval]
  rw[cR_ (by omega)];exact ah_ _ _
 rw[dz_ (n:=(az_ ByteArray.size) x.Keys) (l:=l) hn_Keys]
 simp(disch:=omega)only[aw_,go_sem,seval]
 refine⟨fun hn=>absurd hn (by omega),fun _=>?_⟩
 refine aa_.call (kP_ x.Vals (l-(az_ ByteArray.size) x.Keys) (by omega) (by omega) w_Vals _) ?_
 by_cases hn_Vals:((az_ ByteArray.size) x.Vals:Int)≤l-(az_ ByteArray.size) x.Keys
 case neg =>
  rw[cR_ (n:=(az_ ByteArray.size) x.Vals) (l:=l-(az_ ByteArray.size) x.Keys) (by omega)]
  simp(disch:=omega)only[aw_,go_sem,seval]
  rw[cR_ (by omega)];exact ah_ _ _
 rw[dz_ (n:=(az_ ByteArray.size) x.Vals) (l:=l-(az_ ByteArray.size) x.Keys) hn_Vals]
 simp(disch:=omega)only[aw_,go_sem,seval]
 refine⟨fun hn=>absurd hn (by omega),fun _=>?_⟩
 refine aa_.call (rg_ x.Kids (l-(az_ ByteArray.size) x.Keys-(az_ ByteArray.size) x.Vals) (by omega) (by omega) w_Kids _) ?_
 by_cases hn_Kids:((az_ (fun _=>0)) x.Kids:Int)≤l-(az_ ByteArray.size) x.Keys-(az_ ByteArray.size) x.Vals
 case neg =>
  rw[cR_ (n:=(az_ (fun _=>0)) x.Kids) (l:=l-(az_ ByteArray.size) x.Keys-(az_ ByteArray.size) x.Vals) (by omega)]
  simp(disch:=omega)only[aw_,go_sem,seval]
  rw[cR_ (by omega)];exact ah_ _ _
 rw[dz_ (n:=(az_ (fun _=>0)) x.Kids) (l:=l-(az_ ByteArray.size) x.Keys-(az_ ByteArray.size) x.Vals) hn_Kids]
 simp(disch:=omega)only[aw_,go_sem,seval]
 refine⟨fun hn=>absurd hn (by omega),fun _=>?_⟩
 rw[dz_ (by omega),hsz]
 have hfin:l-(((az_ ByteArray.size) x.Keys+(az_ ByteArray.size) x.Vals+(az_ (fun _=>0)) x.Kids:Nat):Int)=l-(az_ ByteArray.size) x.Keys-(az_ ByteArray.size) x.Vals-(az_ (fun _=>0)) x.Kids:=by omega
 rw[hfin];exact ah_ _ _
theorem ux_(x:am_)(hb:am_.sz x≤1048576)(h:List Row):aa_ prog 120 [.agg (am_.cells x)] h (.agg (am_.cells x)):=by
 have hsz:am_.sz x=(az_ ByteArray.size) x.Keys+(az_ ByteArray.size) x.Vals+(az_ (fun _=>0)) x.Kids:=rfl
 refine ar_ mixed Tryz.func120 u1_ rfl rfl ?_ h
 simp(disch:=omega)only[tD_,w2_,am_.cells,go_sem,seval]
 refine aa_.call (kz_ x.Keys (by omega) _) ?_
 simp(disch:=omega)only[go_sem,seval]
 refine aa_.call (kz_ x.Vals (by omega) _) ?_
 simp(disch:=omega)only[go_sem,seval]
 refine aa_.call (rU_ x.Kids (by omega) _) ?_
 simp(disch:=omega)only[go_sem,seval,fb_]
 exact fG_ _ _ rfl
theorem t5_(x:am_)(hb:am_.sz x≤1048576)(h:List Row):aa_ prog 139 [.agg (am_.cells x),.agg (am_.cells x)] h (.val (.bool true)):=by
 have hsz:am_.sz x=(az_ ByteArray.size) x.Keys+(az_ ByteArray.size) x.Vals+(az_ (fun _=>0)) x.Kids:=rfl
 refine ar_ mixed Tryz.func139 AJ_ rfl rfl ?_ h
 simp(disch:=omega)only[xo_,Bd_,am_.cells,aw_,go_sem,seval]
 refine aa_.call (li_ x.Keys (by omega) _) ?_
 simp(disch:=omega)only[aw_,go_sem,seval]
 refine aa_.call (li_ x.Vals (by omega) _) ?_
 simp(disch:=omega)only[aw_,go_sem,seval]
 refine aa_.call (ry_ x.Kids (by omega) _) ?_
 simp(disch:=omega)only[aw_,go_sem,↓reduceIte]
 exact ah_ _ _
theorem uX_(x:ab_)(l:Int)(h0:0≤l)(h1:l≤1048576)(hw:ab_.wf x)(h:List Row):aa_ prog 63 [.agg (ab_.cells x),.val (.int .i64 l)] h (.val (.int .i64 (szR (ab_.sz x) l))):=by
 obtain⟨w_Id,w_Page,_⟩:=hw
 have hsz:ab_.sz x=am_.sz x.Page:=rfl
 refine ar_ mixed Tryz.func63 Ch_ rfl rfl ?_ h
 simp(disch:=omega)only[Ap_,c63,ab_.cells,go_sem,seval]
 refine aa_.call (uR_ x.Page (l) (by omega) (by omega) w_Page _) ?_
 by_cases hn_Page:(am_.sz x.Page:Int)≤l
 case neg =>
  rw[cR_ (n:=am_.sz x.Page) (l:=l) (by omega)]
  simp(disch:=omega)only[aw_,go_sem,seval]
  rw[cR_ (by omega)];exact ah_ _ _
 rw[dz_ (n:=am_.sz x.Page) (l:=l) hn_Page]
 simp(disch:=omega)only[aw_,go_sem,seval]
 refine⟨fun hn=>absurd hn (by omega),fun _=>?_⟩
 rw[dz_ (by omega),hsz]
 have hfin:l-((am_.sz x.Page:Nat):Int)=l-am_.sz x.Page:=by omega
 rw[hfin];exact ah_ _ _
theorem ui_(x:ab_)(hb:ab_.sz x≤1048576)(h:List Row):aa_ prog 72 [.agg (ab_.cells x)] h (.agg (ab_.cells x)):=by
 have hsz:ab_.sz x=am_.sz x.Page:=rfl
 refine ar_ mixed Tryz.func72 yj_ rfl rfl ?_ h
 simp(disch:=omega)only[wt_,c72,ab_.cells,go_sem,seval]
 refine aa_.call (ux_ x.Page (by omega) _) ?_
 simp(disch:=omega)only[am_.cells,go_sem,seval,fb_]
 exact fG_ _ _ rfl
theorem tT_(x:ab_)(hb:ab_.sz x≤1048576)(h:List Row):aa_ prog 85 [.agg (ab_.cells x),.agg (ab_.cells x)] h (.val (.bool true)):=by
 have hsz:ab_.sz x=am_.sz x.Page:=rfl
 refine ar_ mixed Tryz.func85 C1_ rfl rfl ?_ h
 simp(disch:=omega)only[AX_,c85,ab_.cells,aw_,go_sem,seval]
 refine aa_.call (t5_ x.Page (by omega) _) ?_
 simp(disch:=omega)only[aw_,go_sem,↓reduceIte]
 exact ah_ _ _
theorem sW_(xs:List ab_)(l:Int)(h0:0≤l)(h1:l≤1048576)(hw:eL_ ab_.wf xs)(h:List Row):aa_ prog 31 [.list 0 5 (xs.map ab_.cells),.val (.int .i64 l)] h (.val (.int .i64 (szR (az_ ab_.sz xs) l))):=by
 obtain⟨hx,hs⟩:=hw
 refine ar_ mixed Tryz.func31 CH_ rfl rfl ?_ h
 simp(disch:=omega)only[zF_,c31,aw_,go_sem,seval,au_]
 refine⟨fun hn=>?_,fun hn=>?_⟩
 ·rw[cR_ (by simp only[az_];omega)];exact ah_ _ _
 ·refine aK_ (fun n t h=>∃(k:Nat) (m:Int),t 0=.list 0 5 (xs.map ab_.cells)∧t 5=.val (.int .i64 k)∧t 1=.val (.int .i64 m)∧h=[]∧n=xs.length-k∧k≤xs.length∧0≤m∧m≤1048576∧szR (az_ ab_.sz xs) l=szR (cV_ ab_.sz (xs.drop k)) m) xs.length ?_ ?_
  ·exact⟨0,l-xs.length,rfl,rfl,rfl,rfl,rfl,Nat.zero_le _,by omega,by omega,lt_ (by omega)⟩
  ·rintro J hJ n t h ⟨k,m,t0,t5,t1,rfl,rfl,hk,hm0,hm1,hS⟩
   by_cases hlt:k<xs.length
   ·have hd:=nf_ ab_.sz xs k hlt
    have hwk:=hs _ (getElem_mem hlt)
    rw[hd]at hS
    simp(disch:=omega)only[t0,t5,t1,hlt,ab_.cells,aw_,go_sem,seval]
    refine aa_.call (uX_ xs[k] m hm0 hm1 hwk []) ?_
    by_cases hc:(ab_.sz xs[k]:Int)≤m
    ·rw[dz_ (n:=ab_.sz xs[k]) (l:=m) hc]
     simp(disch:=omega)only[t5,aw_,go_sem,seval,au_]
     refine⟨fun hn2=>absurd hn2 (by omega),fun _=>?_⟩
     exact⟨xs.length-(k+1),by omega,hJ _ _ _ ⟨k+1,m-ab_.sz xs[k],by simp[upd,t0],by simp[upd],by simp[upd],rfl,rfl,by omega,by omega,by omega,by rw[hS,lt_ (by omega)]⟩⟩
    ·rw[cR_ (n:=ab_.sz xs[k]) (l:=m) (by omega)]
     simp(disch:=omega)only[t5,aw_,go_sem,seval,au_]
     rw[hS,cR_ (by omega)];exact ah_ _ _
   ·simp(disch:=omega)only[t0,t5,t1,hlt,aw_,go_sem,seval]
    rw[hS,drop_eq_nil_of_le (by omega),dz_ (by simp only[cV_];omega)]
    simp only[cV_,Int.natCast_zero,Int.sub_zero]
    exact ah_ _ _
theorem sL_(xs:List ab_)(hb:(az_ ab_.sz) xs≤1048576)(h:List Row):aa_ prog 34 [.list 0 5 (xs.map ab_.cells)] h (.list 0 5 (xs.map ab_.cells)):=by
 have hx:=Nat.le_trans (bU_ (f:=ab_.sz) (xs:=xs)) hb
 refine ar_ mixed Tryz.func34 x6_ rfl rfl ?_ h
 simp(disch:=omega)only[vx_,c34,go_sem,seval]
 refine⟨by omega,by omega,?_⟩
 refine aK_ (fun n t h=>∃k:Nat,t 0=.list 0 5 (xs.map ab_.cells)∧t 3=.own 0 xs.length∧t 4=.val (.int .i64 k)∧h=[⟨79,5,bI_ (xs.map ab_.cells) [.val (.int .i64 0),.val (.bool false),.val (.slice none 0 0),.val (.slice none 0 0),.val (.slice none 0 0)] k⟩]∧n=xs.length-k∧k≤xs.length) xs.length ?_ ?_
 ·exact⟨0,rfl,rfl,rfl,by rw[fF_];simp,rfl,Nat.zero_le _⟩
 ·rintro J hJ n t h ⟨k,t0,t3,t4,rfl,rfl,hk⟩
  have fl:(bI_ (xs.map ab_.cells) [.val (.int .i64 0),.val (.bool false),.val (.slice none 0 0),.val (.slice none 0 0),.val (.slice none 0 0)] k).length=xs.length:=by rw[eH_ _ _ (by simpa using hk)];simp
  by_cases hlt:k<xs.length
  ·have fg:(bI_ (xs.map ab_.cells) [.val (.int .i64 0),.val (.bool false),.val (.slice none 0 0),.val (.slice none 0 0),.val (.slice none 0 0)] k)[k]?=some [.val (.int .i64 0),.val (.bool false),.val (.slice none 0 0),.val (.slice none 0 0),.val (.slice none 0 0)]:=gl_ _ _ (by simpa using hlt)
   have fs:=fB_ (xs.map ab_.cells) [.val (.int .i64 0),.val (.bool false),.val (.slice none 0 0),.val (.slice none 0 0),.val (.slice none 0 0)] (ab_.cells xs[k]) (k:=k) (by rw[getElem?_map,getElem?_eq_getElem hlt];rfl)
   simp only[ab_.cells]at fs
   simp(disch:=omega)only[t0,t3,t4,hlt,ab_.cells,aw_,go_sem,seval]
   refine aa_.call (ui_ xs[k] (by have:=gh_ (f:=ab_.sz) (getElem_mem hlt);omega) _) ?_
   simp(disch:=omega)only[t4,hlt,fl,fg,fs,ab_.cells,go_sem,seval,au_]
   exact⟨xs.length-(k+1),by omega,hJ _ _ _ ⟨k+1,by simp[upd,t0],by simp[upd,t3],by simp[upd],rfl,rfl,by omega⟩⟩
  ·simp(disch:=omega)only[t0,t3,t4,hlt,aw_,go_sem,seval]
   have ff:bI_ (xs.map ab_.cells) [.val (.int .i64 0),.val (.bool false),.val (.slice none 0 0),.val (.slice none 0 0),.val (.slice none 0 0)] k=xs.map ab_.cells:=ga_ _ _ (by simp;omega)
   rw[ff]
   exact ec_ (r:=⟨79,5,xs.map ab_.cells⟩) rfl (by simp) (by intro e he;obtain⟨x,_,q⟩:=mem_map.1 he;subst q;rfl)
theorem tx_(xs:List ab_)(hb:(az_ ab_.sz) xs≤1048576)(h:List Row):aa_ prog 41 [.list 0 5 (xs.map ab_.cells),.list 0 5 (xs.map ab_.cells)] h (.val (.bool true)):=by
 have hx:=Nat.le_trans (bU_ (f:=ab_.sz) (xs:=xs)) hb
 refine ar_ mixed Tryz.func41 Cm_ rfl rfl ?_ h
 simp(disch:=omega)only[AZ_,c41,aw_,go_sem,seval]
 refine aK_ (fun n t h=>∃k:Nat,t 0=.list 0 5 (xs.map ab_.cells)∧t 1=.list 0 5 (xs.map ab_.cells)∧t 5=.val (.int .i64 k)∧h=[]∧n=xs.length-k∧k≤xs.length) xs.length ?_ ?_
 ·exact⟨0,rfl,rfl,rfl,rfl,rfl,Nat.zero_le _⟩
 ·rintro J hJ n t h ⟨k,t0,t1,t5,rfl,rfl,hk⟩
  by_cases hlt:k<xs.length
  ·simp(disch:=omega)only[t0,t1,t5,hlt,ab_.cells,aw_,go_sem,seval,au_]
   refine aa_.q (tT_ xs[k] (by have:=gh_ (f:=ab_.sz) (getElem_mem hlt);omega) _) ?_
   simp(disch:=omega)only[go_sem]
   exact⟨xs.length-(k+1),by omega,hJ _ _ _ ⟨k+1,by simp[upd,t0],by simp[upd,t1],by simp[upd],rfl,rfl,by omega⟩⟩
  ·simp(disch:=omega)only[t0,t1,t5,hlt,aw_,go_sem,seval,au_]
   exact ah_ _ _
theorem sD_(x:af_)(l:Int)(h0:0≤l)(h1:l≤1048576)(hw:af_.wf x)(h:List Row):aa_ prog 7 [.agg (af_.cells x),.val (.int .i64 l)] h (.val (.int .i64 (szR (af_.sz x) l))):=by
 obtain⟨w_Root,w_Slots,_⟩:=hw
 have hsz:af_.sz x=(az_ ab_.sz) x.Slots:=rfl
 refine ar_ mixed Tryz.func7 Dg_ rfl rfl ?_ h
 simp(disch:=omega)only[lf7,c7,af_.cells,go_sem,seval]
 refine aa_.call (sW_ x.Slots (l) (by omega) (by omega) w_Slots _) ?_
 by_cases hn_Slots:((az_ ab_.sz) x.Slots:Int)≤l
 case neg =>
  rw[cR_ (n:=(az_ ab_.sz) x.Slots) (l:=l) (by omega)]
  simp(disch:=omega)only[aw_,go_sem,seval]
  rw[cR_ (by omega)];exact ah_ _ _
 rw[dz_ (n:=(az_ ab_.sz) x.Slots) (l:=l) hn_Slots]
 simp(disch:=omega)only[aw_,go_sem,seval]
 refine⟨fun hn=>absurd hn (by omega),fun _=>?_⟩
 rw[dz_ (by omega),hsz]
 have hfin:l-(((az_ ab_.sz) x.Slots:Nat):Int)=l-(az_ ab_.sz) x.Slots:=by omega
 rw[hfin];exact ah_ _ _
theorem fj_(x:af_)(hb:af_.sz x≤1048576)(h:List Row):aa_ prog 9 [.agg (af_.cells x)] h (.agg (af_.cells x)):=by
 have hsz:af_.sz x=(az_ ab_.sz) x.Slots:=rfl
 refine ar_ mixed Tryz.func9 Bm_ rfl rfl ?_ h
 simp(disch:=omega)only[lf9,c9,af_.cells,go_sem,seval]
 refine aa_.call (sL_ x.Slots (by omega) _) ?_
 simp(disch:=omega)only[go_sem,seval,fb_]
 exact fG_ _ _ rfl
theorem fr_(x:af_)(hb:af_.sz x≤1048576)(h:List Row):aa_ prog 11 [.agg (af_.cells x),.agg (af_.cells x)] h (.val (.bool true)):=by
 have hsz:af_.sz x=(az_ ab_.sz) x.Slots:=rfl
 refine ar_ mixed Tryz.func11 Cp_ rfl rfl ?_ h
 simp(disch:=omega)only[z7_,c11,af_.cells,aw_,go_sem,seval]
 refine aa_.call (tx_ x.Slots (by omega) _) ?_
 simp(disch:=omega)only[aw_,go_sem,↓reduceIte]
 exact ah_ _ _
end Go.Proofs.YtlcmlgihlojdmaaGreatDoor
