/-
 Contracts of functions. Conditions: as each theorem says.
-/
import Derived.Test.YtlcmlgihlojdmaaGreatDoorBase
namespace Go.Proofs.YtlcmlgihlojdmaaGreatDoor
open Tryz (prog)
open List
open Go.AW
set_option linter.unusedVariables false
set_option linter.unusedSimpArgs false
set_option maxRecDepth 20000
def c44:LC :=
 .q [.o [.ki 4 0],.o [.m 6 1,.m 7 0,.ll 8 7,.bb 9 .sub false 6 8,.m 1 9],.q [.o [.m 10 1,.bk 11 .lss false 10 0],.k 11 (.q [.o [.s 4 (.mov (.const (.int .i64 (-1))))],.ret]) .skip],.q [.o [.ki 5 0],.block 0
 (.loop (.q [.q [.o [.m 12 5,.m 13 0,.ll 14 13,.bb 15 .lss false 12 14],.k 15 .skip (.exit 0)],.block 1 (.q [.o [.m 18 1,.m 19 0,.m 20 5,.ia 21 1 19 20,.ln 22 21,.s 23 (.lenStr (.tmp 22)),.bb 24 .sub false 18
 23,.m 1 24],.o [.m 25 1,.bk 26 .lss false 25 0],.k 26 (.q [.o [.s 4 (.mov (.const (.int .i64 (-1))))],.ret]) .skip]),.o [.m 16 5,.bk 17 .add false 16 1,.m 5 17]]))],.o [.m 27 1,.m 4 27],.ret]
def BQ_:LF:=⟨2,28,c44,[.tmp 4]⟩
theorem DC_:az_ prog Tryz.f44 BQ_:=at_
def c47:LC :=
 .q [.o [.nl 2],.o [.m 5 0,.ll 6 5,.s 7 (.mkSlice 9 1 16 (.string ⟨#[]⟩) (.tmp 6) (.tmp 6)),.m 3 7],.q [.o [.ki 4 0],.block 0 (.loop (.q [.q [.o [.m 8 4,.m 9 0,.ll 10 9,.bb 11 .lss false 8 10],.k 11 .skip (.exit
 0)],.block 1 (.o [.m 14 3,.m 15 4,.m 16 0,.m 17 4,.ia 18 1 16 17,.ln 19 18,.ia 20 1 14 15,.st 1 20 19]),.o [.m 12 4,.bk 13 .add false 12 1,.m 4 13]]))],.o [.m 21 3,.m 2 21],.ret]
def vB_:LF:=⟨1,22,c47,[.tmp 2]⟩
theorem yI_:az_ prog Tryz.f47 vB_:=at_
def c50:LC :=
 .q [.o [.f 4],.q [.o [.m 6 0,.ll 7 6,.m 8 1,.ll 9 8,.bb 10 .neq false 7 9],.k 10 (.q [.o [.f 4],.ret]) .skip],.q [.o [.ki 5 0],.block 0 (.loop (.q [.q [.o [.m 11 5,.m 12 0,.ll 13 12,.bb 14 .lss false 11 13],
 .k 14 .skip (.exit 0)],.block 1 (.q [.dops [.m 17 0,.m 18 5,.ia 19 1 17 18,.ln 20 19,.m 21 1,.m 22 5,.ia 23 1 21 22,.ln 24 23,.bb 25 .neq false 20 24],.k 25 (.q [.o [.f 4],.ret]) .skip]),.o [.m 15 5,.bk 16
 .add false 15 1,.m 5 16]]))],.o [.t 4],.ret]
def zZ_:LF:=⟨2,26,c50,[.tmp 4]⟩
theorem DG_:az_ prog Tryz.f50 zZ_:=at_
def B6_:LC :=
 .q [.o [.ki 4 0],.o [.m 5 1,.m 6 0,.ll 7 6,.bb 8 .sub false 5 7,.m 1 8],.q [.o [.m 9 1,.bk 10 .lss false 9 0],.k 10 (.q [.o [.s 4 (.mov (.const (.int .i64 (-1))))],.ret]) .skip],.o [.m 11 1,.m 4 11],.ret]
def yF_:LF:=⟨2,12,B6_,[.tmp 4]⟩
theorem Bz_:az_ prog Tryz.f153 yF_:=at_
def xu_:LC :=
 .q [.o [.nl 2],.o [.m 5 0,.ll 6 5,.s 7 (.mkSlice 2 1 8 (.int .i64 0) (.tmp 6) (.tmp 6)),.m 3 7],.q [.o [.ki 4 0],.block 0 (.loop (.q [.q [.o [.m 8 4,.m 9 0,.ll 10 9,.bb 11 .lss false 8 10],.k 11 .skip (.exit
 0)],.block 1 (.o [.m 14 3,.m 15 4,.m 16 0,.m 17 4,.ia 18 1 16 17,.ln 19 18,.ia 20 1 14 15,.st 1 20 19]),.o [.m 12 4,.bk 13 .add false 12 1,.m 4 13]]))],.o [.m 21 3,.m 2 21],.ret]
def sT_:LF:=⟨1,22,xu_,[.tmp 2]⟩
theorem vu_:az_ prog Tryz.f155 sT_:=at_
def Bl_:LC :=
 .q [.o [.f 4],.q [.o [.m 6 0,.ll 7 6,.m 8 1,.ll 9 8,.bb 10 .neq false 7 9],.k 10 (.q [.o [.f 4],.ret]) .skip],.q [.o [.ki 5 0],.block 0 (.loop (.q [.q [.o [.m 11 5,.m 12 0,.ll 13 12,.bb 14 .lss false 11 13],
 .k 14 .skip (.exit 0)],.block 1 (.q [.dops [.m 17 0,.m 18 5,.ia 19 1 17 18,.ln 20 19,.m 21 1,.m 22 5,.ia 23 1 21 22,.ln 24 23,.bb 25 .neq false 20 24],.k 25 (.q [.o [.f 4],.ret]) .skip]),.o [.m 15 5,.bk 16
 .add false 15 1,.m 5 16]]))],.o [.t 4],.ret]
def ys_:LF:=⟨2,26,Bl_,[.tmp 4]⟩
theorem Bx_:az_ prog Tryz.f177 ys_:=at_
def CF_:LC :=
 .q [.o [.bx 2 97 0,.ki 4 0],.o [.fa 5 1 2,.ln 6 5,.m 7 1,.c2 8 44 6 7,.m 1 8],.q [.o [.m 9 1,.bk 10 .lss false 9 0],.k 10 (.q [.o [.s 4 (.mov (.const (.int .i64 (-1))))],.ret]) .skip],.o [.fa 11 2 2,.ln 12
 11,.m 13 1,.c2 14 44 12 13,.m 1 14],.q [.o [.m 15 1,.bk 16 .lss false 15 0],.k 16 (.q [.o [.s 4 (.mov (.const (.int .i64 (-1))))],.ret]) .skip],.o [.fa 17 3 2,.ln 18 17,.m 19 1,.c2 20 153 18 19,.m 1 20],.q
 [.o [.m 21 1,.bk 22 .lss false 21 0],.k 22 (.q [.o [.s 4 (.mov (.const (.int .i64 (-1))))],.ret]) .skip],.o [.m 23 1,.m 4 23],.ret]
def x4_:LF:=⟨2,24,CF_,[.tmp 4]⟩
theorem Bj_:az_ prog Tryz.f111 x4_:=at_
def wb_:LC :=
 .q [.o [.bx 1 97 0,.s 2 (.alloc 77 z1z)],.o [.s 3 (.alloc 77 z1z)],.o [.fa 4 0 1,.ln 5 4,.fa 6 0 3,.st 1 6 5],.o [.fa 7 1 1,.ln 8 7,.c1 9 47 8,.fa 10 1 3,.st 1 10 9],.o [.fa 11 2 1,.ln 12 11,.c1 13 47 12,
 .fa 14 2 3,.st 1 14 13],.o [.fa 15 3 1,.ln 16 15,.c1 17 155 16,.fa 18 3 3,.st 1 18 17],.o [.ld 19 4 3,.st 4 2 19],.ret]
def sP_:LF:=⟨1,20,wb_,[.cell 2 (some 4)]⟩
theorem uj_:az_ prog Tryz.f120 sP_:=at_
def AL_:LC :=
 .q [.o [.bx 2 77 0,.bx 3 77 1,.f 4],.q [.o [.fa 5 0 2,.ln 6 5,.fa 7 0 3,.ln 8 7,.bb 9 .neq true 6 8],.k 9 (.q [.o [.f 4],.ret]) .skip],.q [.o [.fa 10 1 2,.ln 11 10,.fa 12 1 3,.ln 13 12,.c2 14 50 11 13,.nt
 15 14],.k 15 (.q [.o [.f 4],.ret]) .skip],.q [.o [.fa 16 2 2,.ln 17 16,.fa 18 2 3,.ln 19 18,.c2 20 50 17 19,.nt 21 20],.k 21 (.q [.o [.f 4],.ret]) .skip],.q [.o [.fa 22 3 2,.ln 23 22,.fa 24 3 3,.ln 25 24,
 .c2 26 177 23 25,.nt 27 26],.k 27 (.q [.o [.f 4],.ret]) .skip],.o [.t 4],.ret]
def xW_:LF:=⟨2,28,AL_,[.tmp 4]⟩
theorem AQ_:az_ prog Tryz.f139 xW_:=at_
def c63:LC :=
 .q [.o [.bx 2 99 0,.ki 4 0],.o [.fa 5 1 2,.ld 6 4 5,.m 7 1,.c2 8 111 6 7,.m 1 8],.q [.o [.m 9 1,.bk 10 .lss false 9 0],.k 10 (.q [.o [.s 4 (.mov (.const (.int .i64 (-1))))],.ret]) .skip],.o [.m 11 1,.m 4 11],
 .ret]
def Ct_:LF:=⟨2,12,c63,[.tmp 4]⟩
theorem DH_:az_ prog Tryz.f63 Ct_:=at_
def c72:LC :=
 .q [.o [.bx 1 99 0,.s 2 (.alloc 79 z2z)],.o [.s 3 (.alloc 79 z2z)],.o [.fa 4 0 1,.ln 5 4,.fa 6 0 3,.st 1 6 5],.o [.fa 7 1 1,.ld 8 4 7,.c1 9 120 8,.fa 10 1 3,.st 4 10 9],.o [.ld 11 5 3,.st 5 2 11],.ret]
def wZ_:LF:=⟨1,12,c72,[.cell 2 (some 5)]⟩
theorem yj_:az_ prog Tryz.f72 wZ_:=at_
def c85:LC :=
 .q [.o [.bx 2 79 0,.bx 3 79 1,.f 4],.q [.o [.fa 5 0 2,.ln 6 5,.fa 7 0 3,.ln 8 7,.bb 9 .neq false 6 8],.k 9 (.q [.o [.f 4],.ret]) .skip],.q [.o [.fa 10 1 2,.ld 11 4 10,.fa 12 1 3,.ld 13 4 12,.c2 14 139 11
 13,.nt 15 14],.k 15 (.q [.o [.f 4],.ret]) .skip],.o [.t 4],.ret]
def AM_:LF:=⟨2,16,c85,[.tmp 4]⟩
theorem DD_:az_ prog Tryz.f85 AM_:=at_
def c31:LC :=
 .q [.o [.ki 4 0],.o [.m 6 1,.m 7 0,.ll 8 7,.bb 9 .sub false 6 8,.m 1 9],.q [.o [.m 10 1,.bk 11 .lss false 10 0],.k 11 (.q [.o [.s 4 (.mov (.const (.int .i64 (-1))))],.ret]) .skip],.q [.o [.ki 5 0],.block 0
 (.loop (.q [.q [.o [.m 12 5,.m 13 0,.ll 14 13,.bb 15 .lss false 12 14],.k 15 .skip (.exit 0)],.block 1 (.q [.o [.m 18 0,.m 19 5,.ia 20 5 18 19,.ld 21 5 20,.m 22 1,.c2 23 63 21 22,.m 1 23],.o [.m 24 1,.bk 25
 .lss false 24 0],.k 25 (.q [.o [.s 4 (.mov (.const (.int .i64 (-1))))],.ret]) .skip]),.o [.m 16 5,.bk 17 .add false 16 1,.m 5 17]]))],.o [.m 26 1,.m 4 26],.ret]
def Bn_:LF:=⟨2,27,c31,[.tmp 4]⟩
theorem CV_:az_ prog Tryz.f31 Bn_:=at_
def c34:LC :=
 .q [.o [.nl 2],.o [.m 5 0,.ll 6 5,.s 7 (.mkSlice 79 5 88 z2z (.tmp 6) (.tmp 6)),.m 3 7],.q [.o [.ki 4 0],.block 0 (.loop (.q [.q [.o [.m 8 4,.m 9 0,.ll 10 9,.bb 11 .lss false 8 10],.k 11 .skip (.exit 0)],
 .block 1 (.o [.m 14 3,.m 15 4,.m 16 0,.m 17 4,.ia 18 5 16 17,.ld 19 5 18,.c1 20 72 19,.ia 21 5 14 15,.st 5 21 20]),.o [.m 12 4,.bk 13 .add false 12 1,.m 4 13]]))],.o [.m 22 3,.m 2 22],.ret]
def wG_:LF:=⟨1,23,c34,[.tmp 2]⟩
theorem x0_:az_ prog Tryz.f34 wG_:=at_
def c41:LC :=
 .q [.o [.f 4],.q [.o [.m 6 0,.ll 7 6,.m 8 1,.ll 9 8,.bb 10 .neq false 7 9],.k 10 (.q [.o [.f 4],.ret]) .skip],.q [.o [.ki 5 0],.block 0 (.loop (.q [.q [.o [.m 11 5,.m 12 0,.ll 13 12,.bb 14 .lss false 11 13],
 .k 14 .skip (.exit 0)],.block 1 (.q [.dops [.m 17 0,.m 18 5,.ia 19 5 17 18,.ld 20 5 19,.m 21 1,.m 22 5,.ia 23 5 21 22,.ld 24 5 23,.c2 25 85 20 24,.nt 26 25],.k 26 (.q [.o [.f 4],.ret]) .skip]),.o [.m 15 5,
 .bk 16 .add false 15 1,.m 5 16]]))],.o [.t 4],.ret]
def AW_:LF:=⟨2,27,c41,[.tmp 4]⟩
theorem Dc_:az_ prog Tryz.f41 AW_:=at_
def c7:LC :=
 .q [.o [.bx 2 24 0,.ki 4 0],.o [.fa 5 1 2,.ln 6 5,.m 7 1,.c2 8 31 6 7,.m 1 8],.q [.o [.m 9 1,.bk 10 .lss false 9 0],.k 10 (.q [.o [.s 4 (.mov (.const (.int .i64 (-1))))],.ret]) .skip],.o [.m 11 1,.m 4 11],
 .ret]
def lf7:LF:=⟨2,12,c7,[.tmp 4]⟩
theorem DV_:az_ prog Tryz.f7 lf7:=at_
def c9:LC :=
 .q [.o [.bx 1 24 0,.s 2 (.alloc 28 z0z)],.o [.s 3 (.alloc 28 z0z)],.o [.fa 4 0 1,.ln 5 4,.fa 6 0 3,.st 1 6 5],.o [.fa 7 1 1,.ln 8 7,.c1 9 34 8,.fa 10 1 3,.st 1 10 9],.o [.ld 11 2 3,.st 2 2 11],.ret]
def lf9:LF:=⟨1,12,c9,[.cell 2 (some 2)]⟩
theorem Bb_:az_ prog Tryz.f9 lf9:=at_
def c11:LC :=
 .q [.o [.bx 2 28 0,.bx 3 28 1,.f 4],.q [.o [.fa 5 0 2,.ln 6 5,.fa 7 0 3,.ln 8 7,.bb 9 .neq false 6 8],.k 9 (.q [.o [.f 4],.ret]) .skip],.q [.o [.fa 10 1 2,.ln 11 10,.fa 12 1 3,.ln 13 12,.c2 14 41 11 13,.nt
 15 14],.k 15 (.q [.o [.f 4],.ret]) .skip],.o [.t 4],.ret]
def Bw_:LF:=⟨2,16,c11,[.tmp 4]⟩
theorem Ds_:az_ prog Tryz.f11 Bw_:=at_
theorem ky_(xs:List ByteArray)(l:Int)(h0:0≤l)(h1:l≤1048576)(hw:eF_ fp_ xs)(h:List Row):PureCall prog 44 [.list 0 1 (xs.map ah_),.val (.int .i64 l)] h (.val (.int .i64 (szR (ay_ ByteArray.size xs) l))):=by
 obtain⟨hx,hs⟩:=hw
 refine ar_ mixed Tryz.func44 DC_ rfl rfl ?_ h
 simp(disch:=omega)only[BQ_,c44,ax_,go_sem,seval,aw_]
 refine⟨fun hn=>?_,fun hn=>?_⟩
 ·rw[cI_ (by simp only[ay_];omega)];exact ak_ _ _
 ·refine aL_ (fun n t h=>∃(k:Nat) (m:Int),t 0=.list 0 1 (xs.map ah_)∧t 5=.val (.int .i64 k)∧t 1=.val (.int .i64 m)∧h=[]∧n=xs.length-k∧k≤xs.length∧0≤m∧m≤1048576∧szR (ay_ ByteArray.size xs) l=szR (cL_ ByteArray.size (xs.drop k)) m) xs.length ?_ ?_
  ·exact⟨0,l-xs.length,rfl,rfl,rfl,rfl,rfl,Nat.zero_le _,by omega,by omega,ld_ (by omega)⟩
  ·rintro J hJ n t h ⟨k,m,t0,t5,t1,rfl,rfl,hk,hm0,hm1,hS⟩
   by_cases hlt:k<xs.length
   ·have hd:=ms_ ByteArray.size xs k hlt
    have hwk:=hs _ (getElem_mem hlt)
    rw[hd]at hS
    unfold fp_ at hwk
    simp(disch:=omega)only[t0,t5,t1,hlt,ax_,go_sem,seval,aw_]
    refine⟨fun hn2=>?_,fun hn2=>?_⟩
    ·rw[hS,cI_ (by omega)];exact ak_ _ _
    ·exact⟨xs.length-(k+1),by omega,hJ _ _ _ ⟨k+1,m-xs[k].size,by simp[upd,t0],by simp[upd],by simp[upd],rfl,rfl,by omega,by omega,by omega,by rw[hS,ld_ (by omega)]⟩⟩
   ·simp(disch:=omega)only[t0,t5,t1,hlt,ax_,go_sem,seval]
    rw[hS,drop_eq_nil_of_le (by omega),dx_ (by simp only[cL_];omega)]
    simp only[cL_,Int.natCast_zero,Int.sub_zero]
    exact ak_ _ _
theorem kI_(xs:List ByteArray)(hb:(ay_ ByteArray.size) xs≤1048576)(h:List Row):PureCall prog 47 [.list 0 1 (xs.map ah_)] h (.list 0 1 (xs.map ah_)):=by
 have hx:=Nat.le_trans (bU_ (f:=ByteArray.size) (xs:=xs)) hb
 refine ar_ mixed Tryz.func47 yI_ rfl rfl ?_ h
 simp(disch:=omega)only[vB_,c47,go_sem,seval]
 refine⟨by omega,by omega,?_⟩
 refine aL_ (fun n t h=>∃k:Nat,t 0=.list 0 1 (xs.map ah_)∧t 3=.own 0 xs.length∧t 4=.val (.int .i64 k)∧h=[⟨9,1,bI_ (xs.map ah_) [.val (.string ⟨#[]⟩)] k⟩]∧n=xs.length-k∧k≤xs.length) xs.length ?_ ?_
 ·exact⟨0,rfl,rfl,rfl,by rw[fy_];simp,rfl,Nat.zero_le _⟩
 ·rintro J hJ n t h ⟨k,t0,t3,t4,rfl,rfl,hk⟩
  have fl:(bI_ (xs.map ah_) [.val (.string ⟨#[]⟩)] k).length=xs.length:=by rw[eG_ _ _ (by simpa using hk)];simp
  by_cases hlt:k<xs.length
  ·have fg:(bI_ (xs.map ah_) [.val (.string ⟨#[]⟩)] k)[k]?=some [.val (.string ⟨#[]⟩)]:=gw_ _ _ (by simpa using hlt)
   have fs:=fA_ (xs.map ah_) [.val (.string ⟨#[]⟩)] (ah_ xs[k]) (k:=k) (by rw[getElem?_map,getElem?_eq_getElem hlt];rfl)
   simp(disch:=omega)only[t0,t3,t4,hlt,fl,fg,ax_,go_sem,seval,aw_]
   try simp(disch:=omega)only[fs,go_sem]
   exact⟨xs.length-(k+1),by omega,hJ _ _ _ ⟨k+1,by simp[upd,t0],by simp[upd,t3],by simp[upd],by simp[],rfl,by omega⟩⟩
  ·simp(disch:=omega)only[t0,t3,t4,hlt,fl,ax_,go_sem,seval]
   have ff:bI_ (xs.map ah_) [.val (.string ⟨#[]⟩)] k=xs.map ah_:=gv_ _ _ (by simp;omega)
   rw[ff]
   exact d8_ (r:=⟨9,1,xs.map ah_⟩) rfl (by simp) (by intro e he;obtain⟨x,_,q⟩:=mem_map.1 he;subst q;rfl)
theorem kW_(xs:List ByteArray)(hb:(ay_ ByteArray.size) xs≤1048576)(h:List Row):PureCall prog 50 [.list 0 1 (xs.map ah_),.list 0 1 (xs.map ah_)] h (.val (.bool true)):=by
 have hx:=Nat.le_trans (bU_ (f:=ByteArray.size) (xs:=xs)) hb
 refine ar_ mixed Tryz.func50 DG_ rfl rfl ?_ h
 simp(disch:=omega)only[zZ_,c50,ax_,go_sem,seval]
 refine aL_ (fun n t h=>∃k:Nat,t 0=.list 0 1 (xs.map ah_)∧t 1=.list 0 1 (xs.map ah_)∧t 5=.val (.int .i64 k)∧h=[]∧n=xs.length-k∧k≤xs.length) xs.length ?_ ?_
 ·exact⟨0,rfl,rfl,rfl,rfl,rfl,Nat.zero_le _⟩
 ·rintro J hJ n t h ⟨k,t0,t1,t5,rfl,rfl,hk⟩
  by_cases hlt:k<xs.length
  ·simp(disch:=omega)only[t0,t1,t5,hlt,ax_,go_sem,seval,aw_]
   exact⟨xs.length-(k+1),by omega,hJ _ _ _ ⟨k+1,by simp[upd,t0],by simp[upd,t1],by simp[upd],rfl,rfl,by omega⟩⟩
  ·simp(disch:=omega)only[t0,t1,t5,hlt,ax_,go_sem,seval,aw_]
   exact ak_ _ _
theorem r4_(xs:List Int)(l:Int)(h0:0≤l)(h1:l≤1048576)(hw:eF_ hq_ xs)(h:List Row):PureCall prog 153 [.list 0 1 (xs.map aB_),.val (.int .i64 l)] h (.val (.int .i64 (szR (ay_ (fun _=>0) xs) l))):=by
 obtain⟨hx,hs⟩:=hw
 refine ar_ mixed Tryz.func153 Bz_ rfl rfl ?_ h
 simp(disch:=omega)only[yF_,B6_,ax_,go_sem,seval,aw_]
 refine⟨fun hn=>?_,fun hn=>?_⟩
 ·rw[cI_ (by simp only[ay_];omega)];exact ak_ _ _
 ·have:cL_ (fun _:Int=>0) xs=0:=by
   clear hx hs h0 h1 hn
   induction xs with
   | nil=>rfl
   | cons x xs ih=>simp[cL_,ih]
  rw[dx_ (by simp only[ay_];omega)];simp only[ay_,this];exact ak_ _ _
theorem rL_(xs:List Int)(hb:(ay_ (fun _=>0)) xs≤1048576)(h:List Row):PureCall prog 155 [.list 0 1 (xs.map aB_)] h (.list 0 1 (xs.map aB_)):=by
 have hx:=Nat.le_trans (bU_ (f:=(fun _=>0)) (xs:=xs)) hb
 refine ar_ mixed Tryz.func155 vu_ rfl rfl ?_ h
 simp(disch:=omega)only[sT_,xu_,go_sem,seval]
 refine⟨by omega,by omega,?_⟩
 refine aL_ (fun n t h=>∃k:Nat,t 0=.list 0 1 (xs.map aB_)∧t 3=.own 0 xs.length∧t 4=.val (.int .i64 k)∧h=[⟨2,1,bI_ (xs.map aB_) [.val (.int .i64 0)] k⟩]∧n=xs.length-k∧k≤xs.length) xs.length ?_ ?_
 ·exact⟨0,rfl,rfl,rfl,by rw[fy_];simp,rfl,Nat.zero_le _⟩
 ·rintro J hJ n t h ⟨k,t0,t3,t4,rfl,rfl,hk⟩
  have fl:(bI_ (xs.map aB_) [.val (.int .i64 0)] k).length=xs.length:=by rw[eG_ _ _ (by simpa using hk)];simp
  by_cases hlt:k<xs.length
  ·have fg:(bI_ (xs.map aB_) [.val (.int .i64 0)] k)[k]?=some [.val (.int .i64 0)]:=gw_ _ _ (by simpa using hlt)
   have fs:=fA_ (xs.map aB_) [.val (.int .i64 0)] (aB_ xs[k]) (k:=k) (by rw[getElem?_map,getElem?_eq_getElem hlt];rfl)
   simp(disch:=omega)only[t0,t3,t4,hlt,fl,fg,ax_,go_sem,seval,aw_]
   try simp(disch:=omega)only[fs,go_sem]
   exact⟨xs.length-(k+1),by omega,hJ _ _ _ ⟨k+1,by simp[upd,t0],by simp[upd,t3],by simp[upd],by simp[],rfl,by omega⟩⟩
  ·simp(disch:=omega)only[t0,t3,t4,hlt,fl,ax_,go_sem,seval]
   have ff:bI_ (xs.map aB_) [.val (.int .i64 0)] k=xs.map aB_:=gv_ _ _ (by simp;omega)
   rw[ff]
   exact d8_ (r:=⟨2,1,xs.map aB_⟩) rfl (by simp) (by intro e he;obtain⟨x,_,q⟩:=mem_map.1 he;subst q;rfl)
theorem ru_(xs:List Int)(hb:(ay_ (fun _=>0)) xs≤1048576)(h:List Row):PureCall prog 177 [.list 0 1 (xs.map aB_),.list 0 1 (xs.map aB_)] h (.val (.bool true)):=by
 have hx:=Nat.le_trans (bU_ (f:=(fun _=>0)) (xs:=xs)) hb
 refine ar_ mixed Tryz.func177 Bx_ rfl rfl ?_ h
 simp(disch:=omega)only[ys_,Bl_,ax_,go_sem,seval]
 refine aL_ (fun n t h=>∃k:Nat,t 0=.list 0 1 (xs.map aB_)∧t 1=.list 0 1 (xs.map aB_)∧t 5=.val (.int .i64 k)∧h=[]∧n=xs.length-k∧k≤xs.length) xs.length ?_ ?_
 ·exact⟨0,rfl,rfl,rfl,rfl,rfl,Nat.zero_le _⟩
 ·rintro J hJ n t h ⟨k,t0,t1,t5,rfl,rfl,hk⟩
  by_cases hlt:k<xs.length
  ·simp(disch:=omega)only[t0,t1,t5,hlt,ax_,go_sem,seval,aw_]
   exact⟨xs.length-(k+1),by omega,hJ _ _ _ ⟨k+1,by simp[upd,t0],by simp[upd,t1],by simp[upd],rfl,rfl,by omega⟩⟩
  ·simp(disch:=omega)only[t0,t1,t5,hlt,ax_,go_sem,seval,aw_]
   exact ak_ _ _
theorem ut_(x:ai_)(l:Int)(h0:0≤l)(h1:l≤1048576)(hw:ai_.wf x)(h:List Row):PureCall prog 111 [.agg (ai_.cells x),.val (.int .i64 l)] h (.val (.int .i64 (szR (ai_.sz x) l))):=by
 obtain⟨w_Leaf,w_Keys,w_Vals,w_Kids,_⟩:=hw
 have hsz:ai_.sz x=(ay_ ByteArray.size) x.Keys+(ay_ ByteArray.size) x.Vals+(ay_ (fun _=>0)) x.Kids:=rfl
 refine ar_ mixed Tryz.func111 Bj_ rfl rfl ?_ h
 simp(disch:=omega)only[x4_,CF_,ai_.cells,go_sem,seval]
 refine PureCall.call (ky_ x.Keys (l) (by omega) (by omega) w_Keys _) ?_
 by_cases hn_Keys:((ay_ ByteArray.size) x.Keys:Int)≤l
 case neg =>
  rw[cI_ (n:=(ay_ ByteArray.size) x.Keys) (l:=l) (by omega)]
  simp(disch:=omega)only[ax_,go_sem,seval]
  rw[cI_ (by omega)];exact ak_ _ _
 rw[dx_ (n:=(ay_ ByteArray.size) x.Keys) (l:=l) hn_Keys]
 simp(disch:=omega)only[ax_,go_sem,seval]
 refine⟨fun hn=>absurd hn (by omega),fun _=>?_⟩
 refine PureCall.call (ky_ x.Vals (l-(ay_ ByteArray.size) x.Keys) (by omega) (by omega) w_Vals _) ?_
 by_cases hn_Vals:((ay_ ByteArray.size) x.Vals:Int)≤l-(ay_ ByteArray.size) x.Keys
 case neg =>
  rw[cI_ (n:=(ay_ ByteArray.size) x.Vals) (l:=l-(ay_ ByteArray.size) x.Keys) (by omega)]
  simp(disch:=omega)only[ax_,go_sem,seval]
  rw[cI_ (by omega)];exact ak_ _ _
 rw[dx_ (n:=(ay_ ByteArray.size) x.Vals) (l:=l-(ay_ ByteArray.size) x.Keys) hn_Vals]
 simp(disch:=omega)only[ax_,go_sem,seval]
 refine⟨fun hn=>absurd hn (by omega),fun _=>?_⟩
 refine PureCall.call (r4_ x.Kids (l-(ay_ ByteArray.size) x.Keys-(ay_ ByteArray.size) x.Vals) (by omega) (by omega) w_Kids _) ?_
 by_cases hn_Kids:((ay_ (fun _=>0)) x.Kids:Int)≤l-(ay_ ByteArray.size) x.Keys-(ay_ ByteArray.size) x.Vals
 case neg =>
  rw[cI_ (n:=(ay_ (fun _=>0)) x.Kids) (l:=l-(ay_ ByteArray.size) x.Keys-(ay_ ByteArray.size) x.Vals) (by omega)]
  simp(disch:=omega)only[ax_,go_sem,seval]
  rw[cI_ (by omega)];exact ak_ _ _
 rw[dx_ (n:=(ay_ (fun _=>0)) x.Kids) (l:=l-(ay_ ByteArray.size) x.Keys-(ay_ ByteArray.size) x.Vals) hn_Kids]
 simp(disch:=omega)only[ax_,go_sem,seval]
 refine⟨fun hn=>absurd hn (by omega),fun _=>?_⟩
 rw[dx_ (by omega),hsz]
 have hfin:l-(((ay_ ByteArray.size) x.Keys+(ay_ ByteArray.size) x.Vals+(ay_ (fun _=>0)) x.Kids:Nat):Int)=l-(ay_ ByteArray.size) x.Keys-(ay_ ByteArray.size) x.Vals-(ay_ (fun _=>0)) x.Kids:=by omega
 rw[hfin];exact ak_ _ _
theorem uY_(x:ai_)(hb:ai_.sz x≤1048576)(h:List Row):PureCall prog 120 [.agg (ai_.cells x)] h (.agg (ai_.cells x)):=by
 have hsz:ai_.sz x=(ay_ ByteArray.size) x.Keys+(ay_ ByteArray.size) x.Vals+(ay_ (fun _=>0)) x.Kids:=rfl
 refine ar_ mixed Tryz.func120 uj_ rfl rfl ?_ h
 simp(disch:=omega)only[sP_,wb_,ai_.cells,go_sem,seval]
 refine PureCall.call (kI_ x.Keys (by omega) _) ?_
 simp(disch:=omega)only[go_sem,seval]
 refine PureCall.call (kI_ x.Vals (by omega) _) ?_
 simp(disch:=omega)only[go_sem,seval]
 refine PureCall.call (rL_ x.Kids (by omega) _) ?_
 simp(disch:=omega)only[go_sem,seval,e9_]
 exact fJ_ _ _ rfl
theorem up_(x:ai_)(hb:ai_.sz x≤1048576)(h:List Row):PureCall prog 139 [.agg (ai_.cells x),.agg (ai_.cells x)] h (.val (.bool true)):=by
 have hsz:ai_.sz x=(ay_ ByteArray.size) x.Keys+(ay_ ByteArray.size) x.Vals+(ay_ (fun _=>0)) x.Kids:=rfl
 refine ar_ mixed Tryz.func139 AQ_ rfl rfl ?_ h
 simp(disch:=omega)only[xW_,AL_,ai_.cells,ax_,go_sem,seval]
 refine PureCall.call (kW_ x.Keys (by omega) _) ?_
 simp(disch:=omega)only[ax_,go_sem,seval]
 refine PureCall.call (kW_ x.Vals (by omega) _) ?_
 simp(disch:=omega)only[ax_,go_sem,seval]
 refine PureCall.call (ru_ x.Kids (by omega) _) ?_
 simp(disch:=omega)only[ax_,go_sem,↓reduceIte]
 exact ak_ _ _
theorem u6_(x:aa_)(l:Int)(h0:0≤l)(h1:l≤1048576)(hw:aa_.wf x)(h:List Row):PureCall prog 63 [.agg (aa_.cells x),.val (.int .i64 l)] h (.val (.int .i64 (szR (aa_.sz x) l))):=by
 obtain⟨w_Id,w_Page,_⟩:=hw
 have hsz:aa_.sz x=ai_.sz x.Page:=rfl
 refine ar_ mixed Tryz.func63 DH_ rfl rfl ?_ h
 simp(disch:=omega)only[Ct_,c63,aa_.cells,go_sem,seval]
 refine PureCall.call (ut_ x.Page (l) (by omega) (by omega) w_Page _) ?_
 by_cases hn_Page:(ai_.sz x.Page:Int)≤l
 case neg =>
  rw[cI_ (n:=ai_.sz x.Page) (l:=l) (by omega)]
  simp(disch:=omega)only[ax_,go_sem,seval]
  rw[cI_ (by omega)];exact ak_ _ _
 rw[dx_ (n:=ai_.sz x.Page) (l:=l) hn_Page]
 simp(disch:=omega)only[ax_,go_sem,seval]
 refine⟨fun hn=>absurd hn (by omega),fun _=>?_⟩
 rw[dx_ (by omega),hsz]
 have hfin:l-((ai_.sz x.Page:Nat):Int)=l-ai_.sz x.Page:=by omega
 rw[hfin];exact ak_ _ _
theorem uO_(x:aa_)(hb:aa_.sz x≤1048576)(h:List Row):PureCall prog 72 [.agg (aa_.cells x)] h (.agg (aa_.cells x)):=by
 have hsz:aa_.sz x=ai_.sz x.Page:=rfl
 refine ar_ mixed Tryz.func72 yj_ rfl rfl ?_ h
 simp(disch:=omega)only[wZ_,c72,aa_.cells,go_sem,seval]
 refine PureCall.call (uY_ x.Page (by omega) _) ?_
 simp(disch:=omega)only[ai_.cells,go_sem,seval,e9_]
 exact fJ_ _ _ rfl
theorem uJ_(x:aa_)(hb:aa_.sz x≤1048576)(h:List Row):PureCall prog 85 [.agg (aa_.cells x),.agg (aa_.cells x)] h (.val (.bool true)):=by
 have hsz:aa_.sz x=ai_.sz x.Page:=rfl
 refine ar_ mixed Tryz.func85 DD_ rfl rfl ?_ h
 simp(disch:=omega)only[AM_,c85,aa_.cells,ax_,go_sem,seval]
 refine PureCall.call (up_ x.Page (by omega) _) ?_
 simp(disch:=omega)only[ax_,go_sem,↓reduceIte]
 exact ak_ _ _
theorem tu_(xs:List aa_)(l:Int)(h0:0≤l)(h1:l≤1048576)(hw:eF_ aa_.wf xs)(h:List Row):PureCall prog 31 [.list 0 5 (xs.map aa_.cells),.val (.int .i64 l)] h (.val (.int .i64 (szR (ay_ aa_.sz xs) l))):=by
 obtain⟨hx,hs⟩:=hw
 refine ar_ mixed Tryz.func31 CV_ rfl rfl ?_ h
 simp(disch:=omega)only[Bn_,c31,ax_,go_sem,seval,aw_]
 refine⟨fun hn=>?_,fun hn=>?_⟩
 ·rw[cI_ (by simp only[ay_];omega)];exact ak_ _ _
 ·refine aL_ (fun n t h=>∃(k:Nat) (m:Int),t 0=.list 0 5 (xs.map aa_.cells)∧t 5=.val (.int .i64 k)∧t 1=.val (.int .i64 m)∧h=[]∧n=xs.length-k∧k≤xs.length∧0≤m∧m≤1048576∧szR (ay_ aa_.sz xs) l=szR (cL_ aa_.sz (xs.drop k)) m) xs.length ?_ ?_
  ·exact⟨0,l-xs.length,rfl,rfl,rfl,rfl,rfl,Nat.zero_le _,by omega,by omega,ld_ (by omega)⟩
  ·rintro J hJ n t h ⟨k,m,t0,t5,t1,rfl,rfl,hk,hm0,hm1,hS⟩
   by_cases hlt:k<xs.length
   ·have hd:=ms_ aa_.sz xs k hlt
    have hwk:=hs _ (getElem_mem hlt)
    rw[hd]at hS
    simp(disch:=omega)only[t0,t5,t1,hlt,aa_.cells,ax_,go_sem,seval]
    refine PureCall.call (u6_ xs[k] m hm0 hm1 hwk []) ?_
    by_cases hc:(aa_.sz xs[k]:Int)≤m
    ·rw[dx_ (n:=aa_.sz xs[k]) (l:=m) hc]
     simp(disch:=omega)only[t5,ax_,go_sem,seval,aw_]
     refine⟨fun hn2=>absurd hn2 (by omega),fun _=>?_⟩
     exact⟨xs.length-(k+1),by omega,hJ _ _ _ ⟨k+1,m-aa_.sz xs[k],by simp[upd,t0],by simp[upd],by simp[upd],rfl,rfl,by omega,by omega,by omega,by rw[hS,ld_ (by omega)]⟩⟩
    ·rw[cI_ (n:=aa_.sz xs[k]) (l:=m) (by omega)]
     simp(disch:=omega)only[t5,ax_,go_sem,seval,aw_]
     rw[hS,cI_ (by omega)];exact ak_ _ _
   ·simp(disch:=omega)only[t0,t5,t1,hlt,ax_,go_sem,seval]
    rw[hS,drop_eq_nil_of_le (by omega),dx_ (by simp only[cL_];omega)]
    simp only[cL_,Int.natCast_zero,Int.sub_zero]
    exact ak_ _ _
theorem tV_(xs:List aa_)(hb:(ay_ aa_.sz) xs≤1048576)(h:List Row):PureCall prog 34 [.list 0 5 (xs.map aa_.cells)] h (.list 0 5 (xs.map aa_.cells)):=by
 have hx:=Nat.le_trans (bU_ (f:=aa_.sz) (xs:=xs)) hb
 refine ar_ mixed Tryz.func34 x0_ rfl rfl ?_ h
 simp(disch:=omega)only[wG_,c34,go_sem,seval]
 refine⟨by omega,by omega,?_⟩
 refine aL_ (fun n t h=>∃k:Nat,t 0=.list 0 5 (xs.map aa_.cells)∧t 3=.own 0 xs.length∧t 4=.val (.int .i64 k)∧h=[⟨79,5,bI_ (xs.map aa_.cells) [.val (.int .i64 0),.val (.bool false),.val (.slice none 0 0),.val (.slice none 0 0),.val (.slice none 0 0)] k⟩]∧n=xs.length-k∧k≤xs.length) xs.length ?_ ?_
 ·exact⟨0,rfl,rfl,rfl,by rw[fy_];simp,rfl,Nat.zero_le _⟩
 ·rintro J hJ n t h ⟨k,t0,t3,t4,rfl,rfl,hk⟩
  have fl:(bI_ (xs.map aa_.cells) [.val (.int .i64 0),.val (.bool false),.val (.slice none 0 0),.val (.slice none 0 0),.val (.slice none 0 0)] k).length=xs.length:=by rw[eG_ _ _ (by simpa using hk)];simp
  by_cases hlt:k<xs.length
  ·have fg:(bI_ (xs.map aa_.cells) [.val (.int .i64 0),.val (.bool false),.val (.slice none 0 0),.val (.slice none 0 0),.val (.slice none 0 0)] k)[k]?=some [.val (.int .i64 0),.val (.bool false),.val (.slice none 0 0),.val (.slice none 0 0),.val (.slice none 0 0)]:=gw_ _ _ (by simpa using hlt)
   have fs:=fA_ (xs.map aa_.cells) [.val (.int .i64 0),.val (.bool false),.val (.slice none 0 0),.val (.slice none 0 0),.val (.slice none 0 0)] (aa_.cells xs[k]) (k:=k) (by rw[getElem?_map,getElem?_eq_getElem hlt];rfl)
   simp only[aa_.cells]at fs
   simp(disch:=omega)only[t0,t3,t4,hlt,aa_.cells,ax_,go_sem,seval]
   refine PureCall.call (uO_ xs[k] (by have:=gq_ (f:=aa_.sz) (getElem_mem hlt);omega) _) ?_
   simp(disch:=omega)only[t4,hlt,fl,fg,fs,aa_.cells,go_sem,seval,aw_]
   exact⟨xs.length-(k+1),by omega,hJ _ _ _ ⟨k+1,by simp[upd,t0],by simp[upd,t3],by simp[upd],rfl,rfl,by omega⟩⟩
  ·simp(disch:=omega)only[t0,t3,t4,hlt,ax_,go_sem,seval]
   have ff:bI_ (xs.map aa_.cells) [.val (.int .i64 0),.val (.bool false),.val (.slice none 0 0),.val (.slice none 0 0),.val (.slice none 0 0)] k=xs.map aa_.cells:=gv_ _ _ (by simp;omega)
   rw[ff]
   exact d8_ (r:=⟨79,5,xs.map aa_.cells⟩) rfl (by simp) (by intro e he;obtain⟨x,_,q⟩:=mem_map.1 he;subst q;rfl)
theorem tQ_(xs:List aa_)(hb:(ay_ aa_.sz) xs≤1048576)(h:List Row):PureCall prog 41 [.list 0 5 (xs.map aa_.cells),.list 0 5 (xs.map aa_.cells)] h (.val (.bool true)):=by
 have hx:=Nat.le_trans (bU_ (f:=aa_.sz) (xs:=xs)) hb
 refine ar_ mixed Tryz.func41 Dc_ rfl rfl ?_ h
 simp(disch:=omega)only[AW_,c41,ax_,go_sem,seval]
 refine aL_ (fun n t h=>∃k:Nat,t 0=.list 0 5 (xs.map aa_.cells)∧t 1=.list 0 5 (xs.map aa_.cells)∧t 5=.val (.int .i64 k)∧h=[]∧n=xs.length-k∧k≤xs.length) xs.length ?_ ?_
 ·exact⟨0,rfl,rfl,rfl,rfl,rfl,Nat.zero_le _⟩
 ·rintro J hJ n t h ⟨k,t0,t1,t5,rfl,rfl,hk⟩
  by_cases hlt:k<xs.length
  ·simp(disch:=omega)only[t0,t1,t5,hlt,aa_.cells,ax_,go_sem,seval,aw_]
   refine PureCall.q (uJ_ xs[k] (by have:=gq_ (f:=aa_.sz) (getElem_mem hlt);omega) _) ?_
   simp(disch:=omega)only[go_sem]
   exact⟨xs.length-(k+1),by omega,hJ _ _ _ ⟨k+1,by simp[upd,t0],by simp[upd,t1],by simp[upd],rfl,rfl,by omega⟩⟩
  ·simp(disch:=omega)only[t0,t1,t5,hlt,ax_,go_sem,seval,aw_]
   exact ak_ _ _
theorem sV_(x:ae_)(l:Int)(h0:0≤l)(h1:l≤1048576)(hw:ae_.wf x)(h:List Row):PureCall prog 7 [.agg (ae_.cells x),.val (.int .i64 l)] h (.val (.int .i64 (szR (ae_.sz x) l))):=by
 obtain⟨w_Root,w_Slots,_⟩:=hw
 have hsz:ae_.sz x=(ay_ aa_.sz) x.Slots:=rfl
 refine ar_ mixed Tryz.func7 DV_ rfl rfl ?_ h
 simp(disch:=omega)only[lf7,c7,ae_.cells,go_sem,seval]
 refine PureCall.call (tu_ x.Slots (l) (by omega) (by omega) w_Slots _) ?_
 by_cases hn_Slots:((ay_ aa_.sz) x.Slots:Int)≤l
 case neg =>
  rw[cI_ (n:=(ay_ aa_.sz) x.Slots) (l:=l) (by omega)]
  simp(disch:=omega)only[ax_,go_sem,seval]
  rw[cI_ (by omega)];exact ak_ _ _
 rw[dx_ (n:=(ay_ aa_.sz) x.Slots) (l:=l) hn_Slots]
 simp(disch:=omega)only[ax_,go_sem,seval]
 refine⟨fun hn=>absurd hn (by omega),fun _=>?_⟩
 rw[dx_ (by omega),hsz]
 have hfin:l-(((ay_ aa_.sz) x.Slots:Nat):Int)=l-(ay_ aa_.sz) x.Slots:=by omega
 rw[hfin];exact ak_ _ _
theorem fq_(x:ae_)(hb:ae_.sz x≤1048576)(h:List Row):PureCall prog 9 [.agg (ae_.cells x)] h (.agg (ae_.cells x)):=by
 have hsz:ae_.sz x=(ay_ aa_.sz) x.Slots:=rfl
 refine ar_ mixed Tryz.func9 Bb_ rfl rfl ?_ h
 simp(disch:=omega)only[lf9,c9,ae_.cells,go_sem,seval]
 refine PureCall.call (tV_ x.Slots (by omega) _) ?_
 simp(disch:=omega)only[go_sem,seval,e9_]
 exact fJ_ _ _ rfl
theorem fi_(x:ae_)(hb:ae_.sz x≤1048576)(h:List Row):PureCall prog 11 [.agg (ae_.cells x),.agg (ae_.cells x)] h (.val (.bool true)):=by
 have hsz:ae_.sz x=(ay_ aa_.sz) x.Slots:=rfl
 refine ar_ mixed Tryz.func11 Ds_ rfl rfl ?_ h
 simp(disch:=omega)only[Bw_,c11,ae_.cells,ax_,go_sem,seval]
 refine PureCall.call (tQ_ x.Slots (by omega) _) ?_
 simp(disch:=omega)only[ax_,go_sem,↓reduceIte]
 exact ak_ _ _
end Go.Proofs.YtlcmlgihlojdmaaGreatDoor
