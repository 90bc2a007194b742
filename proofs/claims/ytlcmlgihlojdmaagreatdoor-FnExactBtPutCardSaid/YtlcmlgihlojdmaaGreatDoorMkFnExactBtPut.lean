/-
 Contracts of functions. Conditions: as each theorem says.
-/
import Derived.Test.YtlcmlgihlojdmaaGreatDoorGnFnExactBtPut
import Derived.Test.YtlcmlgihlojdmaaGreatDoorAwC
import Derived.Test.YtlcmlgihlojdmaaGreatDoorPlNum
namespace Go.Proofs.YtlcmlgihlojdmaaGreatDoor
open Tryz (prog)
open List
open Go.AW
set_option linter.unusedVariables false
set_option linter.unusedSimpArgs false
set_option maxRecDepth 4000
def aL_(k:Int):ByteArray:=if k≤0 then txt [109,48]else txt (109::b4_ k.toNat)
theorem rh_(u:Nat)(h:u≠0):b4_ u=b4_ (u / 10)++[UInt8.ofNat (48+u % 10)]:=by
 unfold b4_
 rw[if_neg h,Lib.decDigits]
 by_cases q:u<10
 ·rw[dif_pos q,if_pos (by omega)]
  have:u % 10=u:=by omega
  rw[this];rfl
 ·rw[dif_neg q,if_neg (by omega)]
theorem p6_(u:Nat)(h:u≤4611686018427387904):(b4_ u).length≤19:=by
 unfold b4_
 split
 ·simp
 ·rw[Go.Lib.decDigits_length];exact hD_ 18 _ (by omega)
def c96:LC :=
 .q [.o [.s 2 (.mov (.const (.string ⟨#[]⟩)))],.q [.o [.m 4 0,.bk 5 .leq false 4 0],.k 5 (.q [.o [.s 2 (.mov (.const (.string ⟨#[109,48]⟩)))],.ret]) .skip],.o [.s 3 (.mov (.const (.string ⟨#[]⟩)))],.block 0 (.loop
 (.q [.q [.o [.m 6 0,.bk 7 .gtr false 6 0],.k 7 .skip (.exit 0)],.block 1 (.q [.o [.m 8 0,.bk 9 .rem false 8 10,.s 10 (.bin .add false (.const (.int .i64 48)) (.tmp 9)),.s 11 (.convInt .u8 (.tmp 10)),.s 12
 (.buildSlice 5 1 (.int .u8 0) 1 [(0,.tmp 11)]),.s 13 (.toStr (.tmp 12)),.m 14 3,.bb 15 .add false 13 14,.m 3 15],.o [.m 16 0,.bk 17 .quo false 16 10,.m 0 17]])])),.o [.m 18 3,.s 19 (.bin .add false (.const
 (.string ⟨#[109]⟩)) (.tmp 18)),.m 2 19],.ret]
def wd_:LF:=⟨1,20,c96,[.tmp 2]⟩
theorem Cz_:aA_ prog Tryz.f96 wd_:=as_
theorem lV_(k:Int)(hk:0≤k)(hb:k≤4611686018427387904)(h:List Row):aa_ prog 96 [.val (.int .i64 k)] h (.val (.string (aL_ k))):=by
 refine ar_ mixed Tryz.func96 Cz_ rfl rfl ?_ h
 by_cases h0:k≤0
 ·simp(disch:=omega)only[wd_,c96,h0,go_sem,seval]
  exact bE_ (by rw[aL_,if_pos h0])
 ·simp(disch:=omega)only[wd_,c96,h0,go_sem,seval]
  have hL:=p6_ k.toNat (by omega)
  refine aK_ (fun n t h=>∃(u:Nat) (out:List UInt8),t 0=.val (.int .i64 u)∧t 3=.val (.string (txt out))∧u=n∧u≤4611686018427387904∧b4_ k.toNat=b4_ u++out) k.toNat ⟨k.toNat,[],by simp[upd,gg_];omega,rfl,rfl,by omega,by simp⟩ ?_
  rintro J hJ n t h ⟨u,out,t0,t3,rfl,hu,hS⟩
  by_cases hz:0<u
  ·have hm:=rh_ u (by omega)
   have hlen:=congrArg List.length hS
   simp only[la_]at hlen
   have hl1:([UInt8.ofNat (48+u % 10)]:List UInt8).length+out.length≤9223372036854775807:=by simp only[lc_,ln_];omega
   have e1:((u:Int) % 10).toNat=u % 10:=by omega
   have e2:(48+(u:Int) % 10).toNat=48+u % 10:=by omega
   have e3:((u:Int) / 10)=((u / 10:Nat):Int):=by omega
   simp(disch:=omega)only[t0,t3,hz,e2,e3,jz_ _ _ _ hl1,go_sem,seval]
   exact⟨u / 10,by omega,hJ _ _ _ ⟨u / 10,UInt8.ofNat (48+u % 10)::out,by simp[upd],by simp[upd],rfl,by omega,by rw[hS,hm,append_assoc];rfl⟩⟩
  ·have hz':u=0:=by omega
   subst hz'
   have hlen:=congrArg List.length hS
   simp only[la_]at hlen
   have hl2:([109]:List UInt8).length+out.length≤9223372036854775807:=by simp only[lc_,ln_];omega
   simp(disch:=omega)only[t0,t3,jz_ _ _ _ hl2,go_sem,seval]
   exact bE_ (by rw[aL_,if_neg h0,hS];rfl)
def c51:LC :=
 .q [.o [.ki 4 0],.q [.o [.ki 5 0],.block 0 (.loop (.q [.q [.o [.m 6 5,.m 7 0,.ll 8 7,.bb 9 .lss false 6 8],.k 9 .skip (.exit 0)],.block 1 (.q [.o [.m 12 0,.m 13 5,.m 14 1,.c1 15 96 14,.ia 16 1 12 13,.st 1 16
 15],.o [.m 17 1,.bk 18 .add false 17 1,.m 1 18]]),.o [.m 10 5,.bk 11 .add false 10 1,.m 5 11]]))],.o [.m 19 1,.m 4 19],.ret]
def vt_:LF:=⟨2,20,c51,[.tmp 4]⟩
theorem xy_:aA_ prog Tryz.f51 vt_:=as_
def c87:LC :=
 .q [.o [.ki 4 0],.q [.o [.ki 5 0],.block 0 (.loop (.q [.q [.o [.m 6 5,.m 7 0,.ll 8 7,.bb 9 .lss false 6 8],.k 9 .skip (.exit 0)],.block 1 (.q [.q [.dops [.m 12 0,.m 13 5,.ia 14 1 12 13,.ln 15 14,.m 16 1,.c1
 17 96 16,.bb 18 .neq false 15 17],.k 18 (.q [.o [.s 4 (.mov (.const (.int .i64 (-1))))],.ret]) .skip],.o [.m 19 1,.bk 20 .add false 19 1,.m 1 20]]),.o [.m 10 5,.bk 11 .add false 10 1,.m 5 11]]))],.o [.m 21 1,
 .m 4 21],.ret]
def BA_:LF:=⟨2,22,c87,[.tmp 4]⟩
theorem CL_:aA_ prog Tryz.f87 BA_:=as_
def c86:LC :=
 .q [.o [.ki 4 0],.q [.o [.ki 5 0],.block 0 (.loop (.q [.q [.o [.m 6 5,.m 7 0,.ll 8 7,.bb 9 .lss false 6 8],.k 9 .skip (.exit 0)],.block 1 (.q [.o [.m 12 0,.m 13 5,.m 14 1,.ia 15 1 12 13,.st 1 15 14],.o [.m 16
 1,.bk 17 .add false 16 1,.m 1 17]]),.o [.m 10 5,.bk 11 .add false 10 1,.m 5 11]]))],.o [.m 18 1,.m 4 18],.ret]
def wc_:LF:=⟨2,19,c86,[.tmp 4]⟩
theorem x3_:aA_ prog Tryz.f86 wc_:=as_
def c88:LC :=
 .q [.o [.ki 4 0],.q [.o [.ki 5 0],.block 0 (.loop (.q [.q [.o [.m 6 5,.m 7 0,.ll 8 7,.bb 9 .lss false 6 8],.k 9 .skip (.exit 0)],.block 1 (.q [.q [.o [.m 12 0,.m 13 5,.ia 14 1 12 13,.ln 15 14,.m 16 1,.bb 17
 .neq false 15 16],.k 17 (.q [.o [.s 4 (.mov (.const (.int .i64 (-1))))],.ret]) .skip],.o [.m 18 1,.bk 19 .add false 18 1,.m 1 19]]),.o [.m 10 5,.bk 11 .add false 10 1,.m 5 11]]))],.o [.m 20 1,.m 4 20],.ret]
def AI_:LF:=⟨2,21,c88,[.tmp 4]⟩
theorem CW_:aA_ prog Tryz.f88 AI_:=as_
def c42:LC :=
 .q [.o [.ki 4 0],.q [.o [.ki 5 0],.block 0 (.loop (.q [.q [.o [.m 6 5,.m 7 0,.ll 8 7,.bb 9 .lss false 6 8],.k 9 .skip (.exit 0)],.block 1 (.q [.o [.m 12 0,.m 13 5,.m 14 1,.ia 15 5 12 13,.fa 16 0 15,.st 1 16
 14],.o [.m 17 1,.bk 18 .add false 17 1,.m 1 18],.o [.m 19 0,.m 20 5,.m 21 1,.bk 22 .rem false 21 3,.bk 23 .eql false 22 0,.ia 24 5 19 20,.fa 25 1 24,.fa 26 0 25,.st 1 26 23],.o [.m 27 1,.bk 28 .add false 27
 1,.m 1 28],.o [.m 29 0,.m 30 5,.ia 31 5 29 30,.fa 32 1 31,.fa 33 1 32,.ln 34 33,.m 35 1,.c2 36 51 34 35,.m 1 36],.o [.m 37 0,.m 38 5,.ia 39 5 37 38,.fa 40 1 39,.fa 41 2 40,.ln 42 41,.m 43 1,.c2 44 51 42
 43,.m 1 44],.o [.m 45 0,.m 46 5,.ia 47 5 45 46,.fa 48 1 47,.fa 49 3 48,.ln 50 49,.m 51 1,.c2 52 86 50 51,.m 1 52]]),.o [.m 10 5,.bk 11 .add false 10 1,.m 5 11]]))],.o [.m 53 1,.m 4 53],.ret]
def vX_:LF:=⟨2,54,c42,[.tmp 4]⟩
theorem x5_:aA_ prog Tryz.f42 vX_:=as_
def c43:LC :=
 .q [.o [.ki 4 0],.q [.o [.ki 5 0],.block 0 (.loop (.q [.q [.o [.m 6 5,.m 7 0,.ll 8 7,.bb 9 .lss false 6 8],.k 9 .skip (.exit 0)],.block 1 (.q [.q [.o [.m 12 0,.m 13 5,.ia 14 5 12 13,.fa 15 0 14,.ln 16 15,.m
 17 1,.bb 18 .neq false 16 17],.k 18 (.q [.o [.s 4 (.mov (.const (.int .i64 (-1))))],.ret]) .skip],.o [.m 19 1,.bk 20 .add false 19 1,.m 1 20],.q [.o [.m 21 0,.m 22 5,.ia 23 5 21 22,.fa 24 1 23,.fa 25 0 24,.ln
 26 25,.m 27 1,.bk 28 .rem false 27 3,.bk 29 .eql false 28 0,.bb 30 .neq true 26 29],.k 30 (.q [.o [.s 4 (.mov (.const (.int .i64 (-1))))],.ret]) .skip],.o [.m 31 1,.bk 32 .add false 31 1,.m 1 32],.o [.m 33 0,
 .m 34 5,.ia 35 5 33 34,.fa 36 1 35,.fa 37 1 36,.ln 38 37,.m 39 1,.c2 40 87 38 39,.m 1 40],.q [.o [.m 41 1,.bk 42 .lss false 41 0],.k 42 (.q [.o [.s 4 (.mov (.const (.int .i64 (-1))))],.ret]) .skip],.o [.m 43
 0,.m 44 5,.ia 45 5 43 44,.fa 46 1 45,.fa 47 2 46,.ln 48 47,.m 49 1,.c2 50 87 48 49,.m 1 50],.q [.o [.m 51 1,.bk 52 .lss false 51 0],.k 52 (.q [.o [.s 4 (.mov (.const (.int .i64 (-1))))],.ret]) .skip],.o [.m
 53 0,.m 54 5,.ia 55 5 53 54,.fa 56 1 55,.fa 57 3 56,.ln 58 57,.m 59 1,.c2 60 88 58 59,.m 1 60],.o [.m 61 1,.bk 62 .lss false 61 0],.k 62 (.q [.o [.s 4 (.mov (.const (.int .i64 (-1))))],.ret]) .skip]),.o [.m
 10 5,.bk 11 .add false 10 1,.m 5 11]]))],.o [.m 63 1,.m 4 63],.ret]
def zv_:LF:=⟨2,64,c43,[.tmp 4]⟩
theorem CU_:aA_ prog Tryz.f43 zv_:=as_
def c12:LC :=
 .q [.o [.bx 2 28 0,.ki 4 0],.o [.fa 5 1 2,.ln 6 5,.m 7 1,.c2 8 42 6 7,.m 1 8],.o [.m 9 1,.m 4 9],.ret]
def A0_:LF:=⟨2,10,c12,[.tmp 4]⟩
theorem C5_:aA_ prog Tryz.f12 A0_:=as_
def c13:LC :=
 .q [.o [.bx 2 28 0,.ki 4 0],.o [.fa 5 1 2,.ln 6 5,.m 7 1,.c2 8 43 6 7,.m 1 8],.q [.o [.m 9 1,.bk 10 .lss false 9 0],.k 10 (.q [.o [.s 4 (.mov (.const (.int .i64 (-1))))],.ret]) .skip],.o [.m 11 1,.m 4 11],
 .ret]
def BX_:LF:=⟨2,12,c13,[.tmp 4]⟩
theorem CI_:aA_ prog Tryz.f13 BX_:=as_
theorem lO_(xs:List ByteArray):∀e∈xs.map ag_,aS_ [.str] e:=by
 intro e he
 obtain⟨x,_,q⟩:=mem_map.1 he;subst q
 simp only[aS_,bo_,ag_]
 exact⟨_,_,rfl,⟨_,rfl⟩,rfl⟩
theorem kW_(xs:List ByteArray):ba_ (aY_ [.str]) (xs.map ag_)≤1 * (az_ ByteArray.size) xs:=by
 refine iO_ (fun x=>?_) xs
 simp only[aY_,aU_]
 omega
theorem iy_(xs:List ByteArray)(hb:(az_ ByteArray.size) xs≤1048576):cb_ prog 47 [.list 0 1 (xs.map ag_)] (.list 0 1 (xs.map ag_)) (fun a=>∃l,a=.own l xs.length):=by
 have hx:=Nat.le_trans (bU_ (f:=ByteArray.size) (xs:=xs)) hb
 refine fe_ mixed Tryz.func47 yb_ rfl (fun h0=>?_)
 simp(disch:=omega)only[v3_,c47,go_sem,seval]
 refine⟨by omega,by omega,?_⟩
 refine aK_ (fun n t h=>∃k:Nat,t 0=.list 0 1 (xs.map ag_)∧t 3=.own h0.length xs.length∧t 4=.val (.int .i64 k)∧h=h0++[⟨9,1,bI_ (xs.map ag_) [.val (.string (txt []))] k⟩]∧n=xs.length-k∧k≤xs.length) xs.length ?_ ?_
 ·exact⟨0,rfl,rfl,rfl,by rw[fF_];simp,rfl,Nat.zero_le _⟩
 ·rintro J hJ n t h ⟨k,t0,t3,t4,rfl,rfl,hk⟩
  have fl:(bI_ (xs.map ag_) [.val (.string (txt []))] k).length=xs.length:=by rw[eH_ _ _ (by simpa using hk)];simp
  by_cases hlt:k<xs.length
  ·have fg:(bI_ (xs.map ag_) [.val (.string (txt []))] k)[k]?=some [.val (.string (txt []))]:=gl_ _ _ (by simpa using hlt)
   have fs:=fB_ (xs.map ag_) [.val (.string (txt []))] (ag_ xs[k]) (k:=k) (by rw[getElem?_map,getElem?_eq_getElem hlt];rfl)
   simp(disch:=omega)only[t0,t3,t4,hlt,fl,fg,aw_,go_sem,seval,au_]
   try simp(disch:=omega)only[fs,go_sem]
   exact⟨xs.length-(k+1),by omega,hJ _ _ _ ⟨k+1,by simp[upd,t0],by simp[upd,t3],by simp[upd],by simp[],rfl,by omega⟩⟩
  ·simp(disch:=omega)only[t0,t3,t4,hlt,fl,aw_,go_sem,seval]
   have ff:bI_ (xs.map ag_) [.val (.string (txt []))] k=xs.map ag_:=ga_ _ _ (by simp;omega)
   rw[ff]
   refine⟨_,rfl,(aR_.mkown (lo:=h0.length+1) (hi:=h0.length+1) (bC_.ofVals _ _ _ _ ?_) (by rw[fS_];rfl) (by simp) (Nat.le_refl _) (Nat.lt_succ_self _) (Nat.le_refl _)).fresh,_,rfl⟩
   intro e he c hc
   obtain⟨x,_,q⟩:=mem_map.1 he;subst q
   simp only[ag_,mem_singleton]at hc
   exact⟨_,hc⟩
theorem jc_:in_ prog 51 aL_ [.str]:=by
 refine in_.of ?_ ?_
 ·intro H k K hK
  refine aF_ mixed Tryz.func51 xy_ (a9_ rfl ?_)
  simp(disch:=omega)only[vt_,c51,go_sem]
  refine aK_ (fun n t h=>t 0=.val (.slice none 0 0)∧t 1=.val (.int .i64 k)∧t 5=.val (.int .i64 0)∧h=H) 0 ⟨rfl,rfl,rfl,rfl⟩ ?_
  rintro J hJ n t h ⟨t0,t1,t5,rfl⟩
  simp(disch:=omega)only[t0,t1,t5,go_sem,seval]
  exact hK
 ·intro l cnt lo hi E rs0 f H0 k K hT hl nd hrl hlo hhi hsh hk hb hK
  refine aF_ mixed Tryz.func51 xy_ (a9_ rfl ?_)
  obtain⟨seg,hseg⟩:∃seg,seg=(rs0.take hi).drop lo:=⟨_,rfl⟩
  rw[←hseg]at hsh hb hK
  have hsl:hi-lo=seg.length:=by rw[hseg,length_drop,length_take];omega
  have hsn:seg.length≤ba_ (aY_ [.str]) seg:=gQ_ (c:=aY_ [.str]) (fun e he=>by have q:=hsh e he;unfold aS_ at q;obtain⟨c,r,rfl,_,_⟩:=q;simp only[aY_,aU_];omega)
  simp(disch:=omega)only[vt_,c51,go_sem]
  refine aK_ (fun n t h=>∃(i:Nat) (rs:List (List AV)),t 0=.sub l cnt lo hi∧t 1=.val (.int .i64 (aQ_ (bj_ aL_ [.str]) (seg.take i) k).2)∧t 5=.val (.int .i64 i)∧MT H0 l E 1 cnt f rs h∧n=seg.length-i∧i≤seg.length∧rs.length=cnt∧(rs.take hi).drop lo=(aQ_ (bj_ aL_ [.str]) (seg.take i) k).1++seg.drop i) seg.length ⟨0,rs0,rfl,rfl,rfl,hT,rfl,Nat.zero_le _,hrl,hseg.symm⟩ ?_
  rintro J hJ n t h ⟨i,rs,t0,t1,t5,hM,rfl,hi1,hrl1,hS⟩
  by_cases hlt:i<seg.length
  ·have hA:(aQ_ (bj_ aL_ [.str]) (seg.take i) k).1.length=i:=by rw[hz_,length_take];omega
   have hst:=l1_ (g:=(bj_ aL_ [.str])) (k:=k) hlt
   have hcn:=jq_ (c:=aY_ [.str]) hlt
   have hzz:(aQ_ (bj_ aL_ [.str]) (seg.take i) k).2=k+ba_ (aY_ [.str]) (seg.take i):=dR_ (fun x _ k=>ee_ [.str] x k) k
   have hj4:(lo:Int)+(i:Int)<(hi:Int):=by omega
   have hj2:=(m7_ hS hA hlt).2.1
   have hsd:=hsh _ (getElem_mem hlt)
   have hss:∀d,((rs.set (lo+i) d).take hi).drop lo=((aQ_ (bj_ aL_ [.str]) (seg.take i) k).1++[d])++seg.drop (i+1):=fun d=>mm_ hS hA hlt
   clear hS hA
   generalize seg[i]=d at hst hcn hj2 hsd
   obtain⟨z,hz⟩:∃z,z=(aQ_ (bj_ aL_ [.str]) (seg.take i) k).2:=⟨_,rfl⟩
   rw[←hz]at hst hzz t1
   have hz0:0≤z:=by omega
   unfold aS_ at hsd
   obtain⟨_,d0,hd0,hc0,hsd⟩:=hsd
   unfold bo_ at hc0
   obtain⟨s0,rfl⟩:=hc0
   unfold aS_ at hsd
   subst hsd
   subst hd0
   simp only[aY_,aU_,Nat.add_zero]at hcn
   obtain⟨m,es,e,f2,r1,r2,r3,ho_0,nd2,hl2,hfin⟩:=hM.elem hl nd hj2
   obtain⟨q0,rfl,ho_1⟩:=ho_0.inv_val
   obtain⟨rfl,rfl⟩:=ho_1.inv_nil
   have u1:∀r,(h.set l r)[l]?=some r:=fun r=>getElem?_set_self (List.getElem?_eq_some_iff.1 r1).1
   have u2:∀x,(es.set (lo+i) x)[lo+i]?=some x:=fun x=>getElem?_set_self (List.getElem?_eq_some_iff.1 r3).1
   simp(disch:=omega)only[t0,t1,t5,hlt,hsl,hlo,r1,r2,go_sem,seval]
   refine aa_.call (lV_ (z) (by omega) (by omega) _) ?_
   simp(disch:=omega)only[t1,t5,hj4,r1,r2,r3,go_sem,seval]
   refine⟨seg.length-(i+1),by omega,hJ _ _ _ ⟨i+1,rs.set (lo+i) _,by simp[upd,t0],by rw[hst];simp[upd,bj_,bi_],by simp[upd],hfin _ _ _ ?_ (by first|exact u1 _|exact u1 _) ?_ ?_,rfl,by omega,by simpa using hrl1,by rw[hst];exact hss _⟩⟩
   ·simp only[ls_]
   ·intro x hx
    simp only[mem_cons,not_or]at hx
    try rw[getElem?_set_ne (Ne.symm hx.1)]
   ·simp only[bj_,bi_]
    exact⟨_,(aJ_.mk_val _ (aJ_.mk_nil (Own _ (0+1))))⟩
  ·obtain⟨m,es,r1,r2,_⟩:=hM.out
   have e1:seg.take i=seg:=take_of_length_le (by omega)
   have e2:seg.drop i=[]:=drop_eq_nil_of_le (by omega)
   rw[e1]at t1 hS
   rw[e2,append_nil]at hS
   simp(disch:=omega)only[t0,t1,t5,hlt,hsl,hlo,r1,r2,go_sem,seval]
   exact hK _ rs hM hS
theorem jf_(es:List (List AV))(k:Int)(hsh:∀e∈es,aS_ [.str] e)(hk:0≤k)(hb:k+ba_ (aY_ [.str]) es≤4611686018427387904)(h:List Row):aa_ prog 87 [.list 0 1 es,.val (.int .i64 k)] h (.val (.int .i64 (bt_ (bn_ aL_ [.str]) es k))):=by
 refine ar_ mixed Tryz.func87 CL_ rfl rfl ?_ h
 have hsn:es.length≤ba_ (aY_ [.str]) es:=gQ_ (c:=aY_ [.str]) (fun e he=>by have q:=hsh e he;unfold aS_ at q;obtain⟨c,r,rfl,_,_⟩:=q;simp only[aY_,aU_];omega)
 simp(disch:=omega)only[BA_,c87,go_sem,Int.reduceNeg]
 refine aK_ (fun n t h=>∃(i:Nat) (z:Int),t 0=.list 0 1 es∧t 1=.val (.int .i64 z)∧t 5=.val (.int .i64 i)∧n=es.length-i∧i≤es.length∧0≤z∧z+ba_ (aY_ [.str]) (es.drop i)≤4611686018427387904∧bt_ (bn_ aL_ [.str]) es k=bt_ (bn_ aL_ [.str]) (es.drop i) z) es.length ⟨0,k,rfl,rfl,rfl,rfl,Nat.zero_le _,hk,hb,rfl⟩ ?_
 rintro J hJ n t h ⟨i,z,t0,t1,t5,rfl,hi,hz0,hzb,hS⟩
 by_cases hlt:i<es.length
 ·rw[mw_ hlt]at hS
  rw[qC_ hlt]at hzb
  have hsd:=hsh _ (getElem_mem hlt)
  obtain⟨d,hd⟩:∃d,es[i]=d:=⟨_,rfl⟩
  rw[hd]at hS hzb hsd
  have hg:es[i]?=some d:=by rw[getElem?_eq_getElem hlt,hd]
  unfold aS_ at hsd
  obtain⟨_,d0,hd0,hc0,hsd⟩:=hsd
  unfold bo_ at hc0
  obtain⟨s0,rfl⟩:=hc0
  unfold aS_ at hsd
  subst hsd
  subst hd0
  simp only[aY_,aU_,Nat.add_zero]at hzb
  simp(disch:=omega)only[t0,t1,t5,hlt,hg,go_sem,seval]
  refine aa_.q (lV_ (z) (by omega) (by omega) _) ?_
  by_cases q0:s0=aL_ (z)
  case neg =>
   simp(disch:=omega)only[q0,go_sem,seval]
   exact aG_ (by rw[hS];exact(es_ (by simp(disch:=first|assumption|omega)only[uq_])).symm)
  simp(disch:=omega)only[t1,t5,q0,go_sem,seval]
  exact⟨es.length-(i+1),by omega,hJ _ _ _ ⟨i+1,z+1,by simp[upd,t0],by simp[upd],by simp[upd],rfl,by omega,by omega,by omega,by rw[hS];exact im_ (by simp(disch:=first|assumption|omega)only[wi_,mg_]) (by omega)⟩⟩
 ·simp(disch:=omega)only[t0,t1,t5,hlt,go_sem,seval]
  exact aG_ (by rw[hS,drop_eq_nil_of_le (by omega)];rfl)
theorem tj_(xs:List Int):∀e∈xs.map ay_,aS_ [.int] e:=by
 intro e he
 obtain⟨x,_,q⟩:=mem_map.1 he;subst q
 simp only[aS_,bo_,ay_]
 exact⟨_,_,rfl,⟨_,rfl⟩,rfl⟩
theorem rH_(xs:List Int):ba_ (aY_ [.int]) (xs.map ay_)≤1 * (az_ (fun _=>0)) xs:=by
 refine iO_ (fun x=>?_) xs
 simp only[aY_,aU_]
 omega
theorem n2_(xs:List Int)(hb:(az_ (fun _=>0)) xs≤1048576):cb_ prog 155 [.list 0 1 (xs.map ay_)] (.list 0 1 (xs.map ay_)) (fun a=>∃l,a=.own l xs.length):=by
 have hx:=Nat.le_trans (bU_ (f:=(fun _=>0)) (xs:=xs)) hb
 refine fe_ mixed Tryz.func155 tQ_ rfl (fun h0=>?_)
 simp(disch:=omega)only[tb_,wS_,go_sem,seval]
 refine⟨by omega,by omega,?_⟩
 refine aK_ (fun n t h=>∃k:Nat,t 0=.list 0 1 (xs.map ay_)∧t 3=.own h0.length xs.length∧t 4=.val (.int .i64 k)∧h=h0++[⟨2,1,bI_ (xs.map ay_) [.val (.int .i64 0)] k⟩]∧n=xs.length-k∧k≤xs.length) xs.length ?_ ?_
 ·exact⟨0,rfl,rfl,rfl,by rw[fF_];simp,rfl,Nat.zero_le _⟩
 ·rintro J hJ n t h ⟨k,t0,t3,t4,rfl,rfl,hk⟩
  have fl:(bI_ (xs.map ay_) [.val (.int .i64 0)] k).length=xs.length:=by rw[eH_ _ _ (by simpa using hk)];simp
  by_cases hlt:k<xs.length
  ·have fg:(bI_ (xs.map ay_) [.val (.int .i64 0)] k)[k]?=some [.val (.int .i64 0)]:=gl_ _ _ (by simpa using hlt)
   have fs:=fB_ (xs.map ay_) [.val (.int .i64 0)] (ay_ xs[k]) (k:=k) (by rw[getElem?_map,getElem?_eq_getElem hlt];rfl)
   simp(disch:=omega)only[t0,t3,t4,hlt,fl,fg,aw_,go_sem,seval,au_]
   try simp(disch:=omega)only[fs,go_sem]
   exact⟨xs.length-(k+1),by omega,hJ _ _ _ ⟨k+1,by simp[upd,t0],by simp[upd,t3],by simp[upd],by simp[],rfl,by omega⟩⟩
  ·simp(disch:=omega)only[t0,t3,t4,hlt,fl,aw_,go_sem,seval]
   have ff:bI_ (xs.map ay_) [.val (.int .i64 0)] k=xs.map ay_:=ga_ _ _ (by simp;omega)
   rw[ff]
   refine⟨_,rfl,(aR_.mkown (lo:=h0.length+1) (hi:=h0.length+1) (bC_.ofVals _ _ _ _ ?_) (by rw[fS_];rfl) (by simp) (Nat.le_refl _) (Nat.lt_succ_self _) (Nat.le_refl _)).fresh,_,rfl⟩
   intro e he c hc
   obtain⟨x,_,q⟩:=mem_map.1 he;subst q
   simp only[ay_,mem_singleton]at hc
   exact⟨_,hc⟩
theorem po_:in_ prog 86 aL_ [.int]:=by
 refine in_.of ?_ ?_
 ·intro H k K hK
  refine aF_ mixed Tryz.func86 x3_ (a9_ rfl ?_)
  simp(disch:=omega)only[wc_,c86,go_sem]
  refine aK_ (fun n t h=>t 0=.val (.slice none 0 0)∧t 1=.val (.int .i64 k)∧t 5=.val (.int .i64 0)∧h=H) 0 ⟨rfl,rfl,rfl,rfl⟩ ?_
  rintro J hJ n t h ⟨t0,t1,t5,rfl⟩
  simp(disch:=omega)only[t0,t1,t5,go_sem,seval]
  exact hK
 ·intro l cnt lo hi E rs0 f H0 k K hT hl nd hrl hlo hhi hsh hk hb hK
  refine aF_ mixed Tryz.func86 x3_ (a9_ rfl ?_)
  obtain⟨seg,hseg⟩:∃seg,seg=(rs0.take hi).drop lo:=⟨_,rfl⟩
  rw[←hseg]at hsh hb hK
  have hsl:hi-lo=seg.length:=by rw[hseg,length_drop,length_take];omega
  have hsn:seg.length≤ba_ (aY_ [.int]) seg:=gQ_ (c:=aY_ [.int]) (fun e he=>by have q:=hsh e he;unfold aS_ at q;obtain⟨c,r,rfl,_,_⟩:=q;simp only[aY_,aU_];omega)
  simp(disch:=omega)only[wc_,c86,go_sem]
  refine aK_ (fun n t h=>∃(i:Nat) (rs:List (List AV)),t 0=.sub l cnt lo hi∧t 1=.val (.int .i64 (aQ_ (bj_ aL_ [.int]) (seg.take i) k).2)∧t 5=.val (.int .i64 i)∧MT H0 l E 1 cnt f rs h∧n=seg.length-i∧i≤seg.length∧rs.length=cnt∧(rs.take hi).drop lo=(aQ_ (bj_ aL_ [.int]) (seg.take i) k).1++seg.drop i) seg.length ⟨0,rs0,rfl,rfl,rfl,hT,rfl,Nat.zero_le _,hrl,hseg.symm⟩ ?_
  rintro J hJ n t h ⟨i,rs,t0,t1,t5,hM,rfl,hi1,hrl1,hS⟩
  by_cases hlt:i<seg.length
  ·have hA:(aQ_ (bj_ aL_ [.int]) (seg.take i) k).1.length=i:=by rw[hz_,length_take];omega
   have hst:=l1_ (g:=(bj_ aL_ [.int])) (k:=k) hlt
   have hcn:=jq_ (c:=aY_ [.int]) hlt
   have hzz:(aQ_ (bj_ aL_ [.int]) (seg.take i) k).2=k+ba_ (aY_ [.int]) (seg.take i):=dR_ (fun x _ k=>ee_ [.int] x k) k
   have hj4:(lo:Int)+(i:Int)<(hi:Int):=by omega
   have hj2:=(m7_ hS hA hlt).2.1
   have hsd:=hsh _ (getElem_mem hlt)
   have hss:∀d,((rs.set (lo+i) d).take hi).drop lo=((aQ_ (bj_ aL_ [.int]) (seg.take i) k).1++[d])++seg.drop (i+1):=fun d=>mm_ hS hA hlt
   clear hS hA
   generalize seg[i]=d at hst hcn hj2 hsd
   obtain⟨z,hz⟩:∃z,z=(aQ_ (bj_ aL_ [.int]) (seg.take i) k).2:=⟨_,rfl⟩
   rw[←hz]at hst hzz t1
   have hz0:0≤z:=by omega
   unfold aS_ at hsd
   obtain⟨_,d0,hd0,hc0,hsd⟩:=hsd
   unfold bo_ at hc0
   obtain⟨n0,rfl⟩:=hc0
   unfold aS_ at hsd
   subst hsd
   subst hd0
   simp only[aY_,aU_,Nat.add_zero]at hcn
   obtain⟨m,es,e,f2,r1,r2,r3,ho_0,nd2,hl2,hfin⟩:=hM.elem hl nd hj2
   obtain⟨q0,rfl,ho_1⟩:=ho_0.inv_val
   obtain⟨rfl,rfl⟩:=ho_1.inv_nil
   have u1:∀r,(h.set l r)[l]?=some r:=fun r=>getElem?_set_self (List.getElem?_eq_some_iff.1 r1).1
   have u2:∀x,(es.set (lo+i) x)[lo+i]?=some x:=fun x=>getElem?_set_self (List.getElem?_eq_some_iff.1 r3).1
   simp(disch:=omega)only[t0,t1,t5,hlt,hsl,hj4,hlo,r1,r2,r3,go_sem,seval]
   refine⟨seg.length-(i+1),by omega,hJ _ _ _ ⟨i+1,rs.set (lo+i) _,by simp[upd,t0],by rw[hst];simp[upd,bj_,bi_],by simp[upd],hfin _ _ _ ?_ (by first|exact u1 _|exact u1 _) ?_ ?_,rfl,by omega,by simpa using hrl1,by rw[hst];exact hss _⟩⟩
   ·simp only[ls_]
   ·intro x hx
    simp only[mem_cons,not_or]at hx
    try rw[getElem?_set_ne (Ne.symm hx.1)]
   ·simp only[bj_,bi_]
    exact⟨_,(aJ_.mk_val _ (aJ_.mk_nil (Own _ (0+1))))⟩
  ·obtain⟨m,es,r1,r2,_⟩:=hM.out
   have e1:seg.take i=seg:=take_of_length_le (by omega)
   have e2:seg.drop i=[]:=drop_eq_nil_of_le (by omega)
   rw[e1]at t1 hS
   rw[e2,append_nil]at hS
   simp(disch:=omega)only[t0,t1,t5,hlt,hsl,hlo,r1,r2,go_sem,seval]
   exact hK _ rs hM hS
theorem pw_(es:List (List AV))(k:Int)(hsh:∀e∈es,aS_ [.int] e)(hk:0≤k)(hb:k+ba_ (aY_ [.int]) es≤4611686018427387904)(h:List Row):aa_ prog 88 [.list 0 1 es,.val (.int .i64 k)] h (.val (.int .i64 (bt_ (bn_ aL_ [.int]) es k))):=by
 refine ar_ mixed Tryz.func88 CW_ rfl rfl ?_ h
 have hsn:es.length≤ba_ (aY_ [.int]) es:=gQ_ (c:=aY_ [.int]) (fun e he=>by have q:=hsh e he;unfold aS_ at q;obtain⟨c,r,rfl,_,_⟩:=q;simp only[aY_,aU_];omega)
 simp(disch:=omega)only[AI_,c88,go_sem,Int.reduceNeg]
 refine aK_ (fun n t h=>∃(i:Nat) (z:Int),t 0=.list 0 1 es∧t 1=.val (.int .i64 z)∧t 5=.val (.int .i64 i)∧n=es.length-i∧i≤es.length∧0≤z∧z+ba_ (aY_ [.int]) (es.drop i)≤4611686018427387904∧bt_ (bn_ aL_ [.int]) es k=bt_ (bn_ aL_ [.int]) (es.drop i) z) es.length ⟨0,k,rfl,rfl,rfl,rfl,Nat.zero_le _,hk,hb,rfl⟩ ?_
 rintro J hJ n t h ⟨i,z,t0,t1,t5,rfl,hi,hz0,hzb,hS⟩
 by_cases hlt:i<es.length
 ·rw[mw_ hlt]at hS
  rw[qC_ hlt]at hzb
  have hsd:=hsh _ (getElem_mem hlt)
  obtain⟨d,hd⟩:∃d,es[i]=d:=⟨_,rfl⟩
  rw[hd]at hS hzb hsd
  have hg:es[i]?=some d:=by rw[getElem?_eq_getElem hlt,hd]
  unfold aS_ at hsd
  obtain⟨_,d0,hd0,hc0,hsd⟩:=hsd
  unfold bo_ at hc0
  obtain⟨n0,rfl⟩:=hc0
  unfold aS_ at hsd
  subst hsd
  subst hd0
  simp only[aY_,aU_,Nat.add_zero]at hzb
  simp(disch:=omega)only[t0,t1,t5,hlt,hg,go_sem,seval]
  by_cases q0:n0=z
  case neg =>
   simp(disch:=omega)only[q0,go_sem,seval]
   exact aG_ (by rw[hS];exact(es_ (by simp(disch:=first|assumption|omega)only[oI_])).symm)
  simp(disch:=omega)only[t1,t5,q0,go_sem,seval]
  exact⟨es.length-(i+1),by omega,hJ _ _ _ ⟨i+1,z+1,by simp[upd,t0],by simp[upd],by simp[upd],rfl,by omega,by omega,by omega,by rw[hS];exact im_ (by simp(disch:=first|assumption|omega)only[gN_,mg_]) (by omega)⟩⟩
 ·simp(disch:=omega)only[t0,t1,t5,hlt,go_sem,seval]
  exact aG_ (by rw[hS,drop_eq_nil_of_le (by omega)];rfl)
theorem qJ_(x:am_)(hb:am_.sz x≤1048576):cb_ prog 120 [.agg (am_.cells x)] (.agg (am_.cells x)) (fun a=>∃l_Keys l_Vals l_Kids,a=.agg [.val (.bool x.Leaf),.own l_Keys (x.Keys).length,.own l_Vals (x.Vals).length,.own l_Kids (x.Kids).length]):=by
 have hsz:am_.sz x=(az_ ByteArray.size) x.Keys+(az_ ByteArray.size) x.Vals+(az_ (fun _=>0)) x.Kids:=rfl
 refine fe_ mixed Tryz.func120 u1_ rfl (fun h0=>?_)
 simp(disch:=omega)only[tD_,w2_,am_.cells,go_sem,seval]
 refine iy_ x.Keys (by omega) _ _ (fun av1 hn1 hf1 hq1=>?_)
 obtain⟨l_Keys,rfl⟩:=hq1
 simp(disch:=omega)only[go_sem,seval]
 refine iy_ x.Vals (by omega) _ _ (fun av2 hn2 hf2 hq2=>?_)
 obtain⟨l_Vals,rfl⟩:=hq2
 simp(disch:=omega)only[go_sem,seval]
 refine n2_ x.Kids (by omega) _ _ (fun av3 hn3 hf3 hq3=>?_)
 obtain⟨l_Kids,rfl⟩:=hq3
 simp(disch:=omega)only[go_sem,seval,fb_]
 exact⟨_,rfl,kV_ (aN_.val _ (aN_.cons ((hf1.b.keep fun l q1 q2=>pre3 (t:=hn2++hn3) (by simp) q1 q2).widen (by first|omega|(simp;done)|(simp;omega)) (Nat.le_refl _)) (aN_.cons ((hf2.b.keep fun l q1 q2=>pre3 (t:=hn3) (by simp) q1 q2).widen (by first|omega|(simp;done)|(simp;omega)) (Nat.le_refl _)) (aN_.cons ((hf3.b.keep fun l q1 q2=>pre3 (t:=[]) (by simp) q1 q2).widen (by first|omega|(simp;done)|(simp;omega)) (Nat.le_refl _)) (aN_.nil _ _ _) ⟨(by first|omega|(simp;done)|(simp;omega)),(by first|omega|(simp;done)|(simp;omega))⟩) ⟨(by first|omega|(simp;done)|(simp;omega)),(by first|omega|(simp;done)|(simp;omega))⟩) ⟨(by first|omega|(simp;done)|(simp;omega)),(by first|omega|(simp;done)|(simp;omega))⟩)),l_Keys,l_Vals,l_Kids,rfl⟩
theorem vm_(x:ab_):aS_ [.int,.bool,.list [.str],.list [.str],.list [.int]] (ab_.cells x):=by
 simp only[ab_.cells,aS_,bo_]
 exact⟨_,_,rfl,⟨_,rfl⟩,⟨_,_,rfl,⟨_,rfl⟩,⟨_,_,rfl,⟨_,rfl,lO_ _⟩,⟨_,_,rfl,⟨_,rfl,lO_ _⟩,⟨_,_,rfl,⟨_,rfl,tj_ _⟩,rfl⟩⟩⟩⟩⟩
theorem qT_(x:ab_)(hb:ab_.sz x≤1048576):cb_ prog 72 [.agg (ab_.cells x)] (.agg (ab_.cells x)) (fun a=>∃l_Page_Keys l_Page_Vals l_Page_Kids,a=.agg [.val (.int .i64 x.Id),.val (.bool x.Page.Leaf),.own l_Page_Keys (x.Page.Keys).length,.own l_Page_Vals (x.Page.Vals).length,.own l_Page_Kids (x.Page.Kids).length]):=by
 have hsz:ab_.sz x=am_.sz x.Page:=rfl
 refine fe_ mixed Tryz.func72 yj_ rfl (fun h0=>?_)
 simp(disch:=omega)only[wt_,c72,ab_.cells,go_sem,seval]
 refine qJ_ x.Page (by omega) _ _ (fun av1 hn1 hf1 hq1=>?_)
 obtain⟨l_Page_Keys,l_Page_Vals,l_Page_Kids,rfl⟩:=hq1
 simp(disch:=omega)only[go_sem,seval,fb_]
 exact⟨_,rfl,kV_ (aN_.val _ (aN_.app ((hf1.b.unagg.keep fun l q1 q2=>pre3 (t:=[]) (by simp) q1 q2).widen (by first|omega|(simp;done)|(simp;omega)) (Nat.le_refl _)) (aN_.nil _ _ _) ⟨(by first|omega|(simp;done)|(simp;omega)),(by first|omega|(simp;done)|(simp;omega))⟩)),l_Page_Keys,l_Page_Vals,l_Page_Kids,rfl⟩
theorem uQ_(xs:List ab_):∀e∈xs.map ab_.cells,aS_ [.int,.bool,.list [.str],.list [.str],.list [.int]] e:=by
 intro e he
 obtain⟨x,_,q⟩:=mem_map.1 he;subst q
 exact vm_ x
theorem sz_(xs:List ab_):ba_ (aY_ [.int,.bool,.list [.str],.list [.str],.list [.int]]) (xs.map ab_.cells)≤5 * (az_ ab_.sz) xs:=by
 refine iO_ (fun x=>?_) xs
 have c0:=kW_ (x.Page.Keys)
 have c1:=kW_ (x.Page.Vals)
 have c2:=rH_ (x.Page.Kids)
 have hsz0:∀y:ab_,ab_.sz y=am_.sz y.Page:=fun _=>rfl
 have hsz1:∀y:am_,am_.sz y=(az_ ByteArray.size) y.Keys+(az_ ByteArray.size) y.Vals+(az_ (fun _=>0)) y.Kids:=fun _=>rfl
 simp only[hsz0,hsz1]at *
 simp only[ab_.cells,aY_,aU_]
 omega
theorem pk_(xs:List ab_)(hb:(az_ ab_.sz) xs≤1048576):cb_ prog 34 [.list 0 5 (xs.map ab_.cells)] (.list 0 5 (xs.map ab_.cells)) (fun a=>∃l,a=.own l xs.length):=by
 have hx:=Nat.le_trans (bU_ (f:=ab_.sz) (xs:=xs)) hb
 refine fe_ mixed Tryz.func34 x6_ rfl (fun h0=>?_)
 simp(disch:=omega)only[vx_,c34,go_sem,seval]
 refine⟨by omega,by omega,?_⟩
 refine aK_ (fun n t h=>∃(k:Nat) (done:List (List AV)) (rest:List Row),t 0=.list 0 5 (xs.map ab_.cells)∧t 3=.own h0.length xs.length∧t 4=.val (.int .i64 k)∧h=h0++⟨79,5,done++List.replicate (xs.length-k) ([.val (.int .i64 0),.val (.bool false),.val (.slice none 0 0),.val (.slice none 0 0),.val (.slice none 0 0)]:List AV)⟩::rest∧n=xs.length-k∧k≤xs.length∧done.length=k∧bC_ (h0.length+1) h.length h done ((xs.take k).map ab_.cells)) xs.length ?_ ?_
 ·exact⟨0,[],[],rfl,rfl,rfl,by simp,rfl,Nat.zero_le _,rfl,.nil _ _ _⟩
 ·rintro J hJ n t h ⟨k,done,rest,t0,t3,t4,rfl,rfl,hk,hd,hF⟩
  have fl:(done++List.replicate (xs.length-k) ([.val (.int .i64 0),.val (.bool false),.val (.slice none 0 0),.val (.slice none 0 0),.val (.slice none 0 0)]:List AV)).length=xs.length:=by simp;omega
  by_cases hlt:k<xs.length
  ·have e1:xs.length-k=(xs.length-(k+1))+1:=by omega
   have fg:(done++List.replicate (xs.length-k) ([.val (.int .i64 0),.val (.bool false),.val (.slice none 0 0),.val (.slice none 0 0),.val (.slice none 0 0)]:List AV))[k]?=some [.val (.int .i64 0),.val (.bool false),.val (.slice none 0 0),.val (.slice none 0 0),.val (.slice none 0 0)]:=by rw[getElem?_append_right (by omega),hd,Nat.sub_self,e1];rfl
   have fs:∀c:List AV,(done++List.replicate (xs.length-k) ([.val (.int .i64 0),.val (.bool false),.val (.slice none 0 0),.val (.slice none 0 0),.val (.slice none 0 0)]:List AV)).set k c=(done++[c])++List.replicate (xs.length-(k+1)) ([.val (.int .i64 0),.val (.bool false),.val (.slice none 0 0),.val (.slice none 0 0),.val (.slice none 0 0)]:List AV):=by
    intro c;rw[set_append_right _ _ (by omega),hd,Nat.sub_self,e1,replicate_succ,set_cons_zero,append_assoc];rfl
   simp(disch:=omega)only[t0,t3,t4,hlt,ab_.cells,aw_,go_sem,seval]
   refine qT_ xs[k] (by have:=gh_ (f:=ab_.sz) (getElem_mem hlt);omega) _ _ (fun av hn hf hq=>?_)
   obtain⟨l_Page_Keys,l_Page_Vals,l_Page_Kids,rfl⟩:=hq
   simp(disch:=omega)only[t4,hlt,fl,fg,fs,go_sem,seval,au_]
   refine⟨xs.length-(k+1),by omega,hJ _ _ _ ⟨k+1,done++[[.val (.int .i64 xs[k].Id),.val (.bool xs[k].Page.Leaf),.own l_Page_Keys (xs[k].Page.Keys).length,.own l_Page_Vals (xs[k].Page.Vals).length,.own l_Page_Kids (xs[k].Page.Kids).length]],rest++hn,by simp[upd,t0],by simp[upd,t3],by simp[upd],by simp,rfl,by omega,by simp[hd],?_⟩⟩
   rw[take_succ_eq_append_getElem hlt,map_append]
   have hz:=rE_ (r':=⟨79,5,(done++[[.val (.int .i64 xs[k].Id),.val (.bool xs[k].Page.Leaf),.own l_Page_Keys (xs[k].Page.Keys).length,.own l_Page_Vals (xs[k].Page.Vals).length,.own l_Page_Kids (xs[k].Page.Kids).length]])++List.replicate (xs.length-(k+1)) ([.val (.int .i64 0),.val (.bool false),.val (.slice none 0 0),.val (.slice none 0 0),.val (.slice none 0 0)]:List AV)⟩) hF hf
   first|exact hz|simpa using hz
  ·simp(disch:=omega)only[t0,t3,t4,hlt,aw_,go_sem,seval]
   have e1:xs.length-k=0:=by omega
   rw[e1,replicate_zero,append_nil,take_of_length_le (by omega)]at hF
   rw[e1,replicate_zero,append_nil]
   exact⟨_,rfl,sP_ hF (by omega),_,rfl⟩
theorem qU_:in_ prog 42 aL_ [.int,.bool,.list [.str],.list [.str],.list [.int]]:=by
 refine in_.of ?_ ?_
 ·intro H k K hK
  refine aF_ mixed Tryz.func42 x5_ (a9_ rfl ?_)
  simp(disch:=omega)only[vX_,c42,go_sem]
  refine aK_ (fun n t h=>t 0=.val (.slice none 0 0)∧t 1=.val (.int .i64 k)∧t 5=.val (.int .i64 0)∧h=H) 0 ⟨rfl,rfl,rfl,rfl⟩ ?_
  rintro J hJ n t h ⟨t0,t1,t5,rfl⟩
  simp(disch:=omega)only[t0,t1,t5,go_sem,seval]
  exact hK
 ·intro l cnt lo hi E rs0 f H0 k K hT hl nd hrl hlo hhi hsh hk hb hK
  refine aF_ mixed Tryz.func42 x5_ (a9_ rfl ?_)
  obtain⟨seg,hseg⟩:∃seg,seg=(rs0.take hi).drop lo:=⟨_,rfl⟩
  rw[←hseg]at hsh hb hK
  have hsl:hi-lo=seg.length:=by rw[hseg,length_drop,length_take];omega
  have hsn:seg.length≤ba_ (aY_ [.int,.bool,.list [.str],.list [.str],.list [.int]]) seg:=gQ_ (c:=aY_ [.int,.bool,.list [.str],.list [.str],.list [.int]]) (fun e he=>by have q:=hsh e he;unfold aS_ at q;obtain⟨c,r,rfl,_,_⟩:=q;simp only[aY_,aU_];omega)
  simp(disch:=omega)only[vX_,c42,go_sem]
  refine aK_ (fun n t h=>∃(i:Nat) (rs:List (List AV)),t 0=.sub l cnt lo hi∧t 1=.val (.int .i64 (aQ_ (bj_ aL_ [.int,.bool,.list [.str],.list [.str],.list [.int]]) (seg.take i) k).2)∧t 5=.val (.int .i64 i)∧MT H0 l E 5 cnt f rs h∧n=seg.length-i∧i≤seg.length∧rs.length=cnt∧(rs.take hi).drop lo=(aQ_ (bj_ aL_ [.int,.bool,.list [.str],.list [.str],.list [.int]]) (seg.take i) k).1++seg.drop i) seg.length ⟨0,rs0,rfl,rfl,rfl,hT,rfl,Nat.zero_le _,hrl,hseg.symm⟩ ?_
  rintro J hJ n t h ⟨i,rs,t0,t1,t5,hM,rfl,hi1,hrl1,hS⟩
  by_cases hlt:i<seg.length
  ·have hA:(aQ_ (bj_ aL_ [.int,.bool,.list [.str],.list [.str],.list [.int]]) (seg.take i) k).1.length=i:=by rw[hz_,length_take];omega
   have hst:=l1_ (g:=(bj_ aL_ [.int,.bool,.list [.str],.list [.str],.list [.int]])) (k:=k) hlt
   have hcn:=jq_ (c:=aY_ [.int,.bool,.list [.str],.list [.str],.list [.int]]) hlt
   have hzz:(aQ_ (bj_ aL_ [.int,.bool,.list [.str],.list [.str],.list [.int]]) (seg.take i) k).2=k+ba_ (aY_ [.int,.bool,.list [.str],.list [.str],.list [.int]]) (seg.take i):=dR_ (fun x _ k=>ee_ [.int,.bool,.list [.str],.list [.str],.list [.int]] x k) k
   have hj4:(lo:Int)+(i:Int)<(hi:Int):=by omega
   have hj2:=(m7_ hS hA hlt).2.1
   have hsd:=hsh _ (getElem_mem hlt)
   have hss:∀d,((rs.set (lo+i) d).take hi).drop lo=((aQ_ (bj_ aL_ [.int,.bool,.list [.str],.list [.str],.list [.int]]) (seg.take i) k).1++[d])++seg.drop (i+1):=fun d=>mm_ hS hA hlt
   clear hS hA
   generalize seg[i]=d at hst hcn hj2 hsd
   obtain⟨z,hz⟩:∃z,z=(aQ_ (bj_ aL_ [.int,.bool,.list [.str],.list [.str],.list [.int]]) (seg.take i) k).2:=⟨_,rfl⟩
   rw[←hz]at hst hzz t1
   have hz0:0≤z:=by omega
   unfold aS_ at hsd
   obtain⟨_,d0,hd0,hc0,hsd⟩:=hsd
   unfold bo_ at hc0
   obtain⟨n0,rfl⟩:=hc0
   unfold aS_ at hsd
   obtain⟨_,d1,hd1,hc1,hsd⟩:=hsd
   unfold bo_ at hc1
   obtain⟨b1,rfl⟩:=hc1
   unfold aS_ at hsd
   obtain⟨_,d2,hd2,hc2,hsd⟩:=hsd
   unfold bo_ at hc2
   obtain⟨e2,rfl,hc2⟩:=hc2
   unfold aS_ at hsd
   obtain⟨_,d3,hd3,hc3,hsd⟩:=hsd
   unfold bo_ at hc3
   obtain⟨e3,rfl,hc3⟩:=hc3
   unfold aS_ at hsd
   obtain⟨_,d4,hd4,hc4,hsd⟩:=hsd
   unfold bo_ at hc4
   obtain⟨e4,rfl,hc4⟩:=hc4
   unfold aS_ at hsd
   subst hsd
   subst hd4
   subst hd3
   subst hd2
   subst hd1
   subst hd0
   simp only[aY_,aU_,Nat.add_zero]at hcn
   obtain⟨m,es,e,f2,r1,r2,r3,ho_0,nd2,hl2,hfin⟩:=hM.elem hl nd hj2
   obtain⟨q0,rfl,ho_1⟩:=ho_0.inv_val
   obtain⟨q1,rfl,ho_2⟩:=ho_1.inv_val
   obtain⟨c2,q2,g2,w2,rfl,rfl,hw2,ho_3⟩:=ho_2.inv_cons
   obtain⟨c3,q3,g3,w3,rfl,rfl,hw3,ho_4⟩:=ho_3.inv_cons
   obtain⟨c4,q4,g4,w4,rfl,rfl,hw4,ho_5⟩:=ho_4.inv_cons
   obtain⟨rfl,rfl⟩:=ho_5.inv_nil
   simp only[nodup_append,mem_append,append_nil]at nd2 hl2
   have nd_2:g2.Nodup:=by first|exact nd2|exact nd2.1|exact nd2.2.1|(simp_all;done)
   have hl_2:l∉g2:=fun q=>hl2 (by simp[q])
   have nd_3:g3.Nodup:=by first|exact nd2|exact nd2.1|exact nd2.2.1|(simp_all;done)
   have hl_3:l∉g3:=fun q=>hl2 (by simp[q])
   have nd_4:g4.Nodup:=by first|exact nd2|exact nd2.1|exact nd2.2.1|(simp_all;done)
   have hl_4:l∉g4:=fun q=>hl2 (by simp[q])
   have u1:∀r,(h.set l r)[l]?=some r:=fun r=>getElem?_set_self (List.getElem?_eq_some_iff.1 r1).1
   have u2:∀x,(es.set (lo+i) x)[lo+i]?=some x:=fun x=>getElem?_set_self (List.getElem?_eq_some_iff.1 r3).1
   simp(disch:=omega)only[t0,t1,t5,hlt,hsl,hj4,hlo,r1,r2,r3,u1,u2,ls_,set_set,go_sem,seval]
   refine jc_ _ c2 e2 g2 _ (z+1+1) _ (hw2.keep fun x hx=>?_) nd_2 hc2 (by omega) (by omega) (fun H1 m1 x1 y1 v1=>?_)
   ·first|rfl|exact getElem?_set_ne (by rintro rfl;exact hl_2 hx)
   have hq2:(aQ_ (bj_ aL_ [.str]) e2 (z+1+1)).2=z+1+1+(ba_ (aY_ [.str]) e2:Nat):=dR_ (fun x _ k=>ee_ _ x k) _
   have p1:=(y1 l hl_2).trans (by first|exact u1 _|exact r1)
   have un1:∀r,(H1.set l r)[l]?=some r:=fun r=>getElem?_set_self (List.getElem?_eq_some_iff.1 p1).1
   simp(disch:=omega)only[t0,t5,hj4,r2,u2,ls_,p1,go_sem,seval]
   refine jc_ _ c3 e3 g3 _ ((aQ_ (bj_ aL_ [.str]) e2 (z+1+1)).2) _ (hw3.keep fun x hx=>?_) nd_3 hc3 (by omega) (by omega) (fun H2 m2 x2 y2 v2=>?_)
   ·first|rfl|exact getElem?_set_ne (by rintro rfl;exact hl_3 hx)|((try rw[getElem?_set_ne (by rintro rfl;exact hl_3 hx)]);rw[y1 x (by intro hq;first|(simp_all;done)|exact nd.2.2 _ hq _ hx rfl|exact nd.2.2 _ hx _ hq rfl|grind)];(try rw[getElem?_set_ne (by rintro rfl;exact hl_3 hx)]))
   have hq3:(aQ_ (bj_ aL_ [.str]) e3 ((aQ_ (bj_ aL_ [.str]) e2 (z+1+1)).2)).2=(aQ_ (bj_ aL_ [.str]) e2 (z+1+1)).2+(ba_ (aY_ [.str]) e3:Nat):=dR_ (fun x _ k=>ee_ _ x k) _
   have p2:=(y2 l hl_3).trans (by first|exact un1 _|exact p1)
   have un2:∀r,(H2.set l r)[l]?=some r:=fun r=>getElem?_set_self (List.getElem?_eq_some_iff.1 p2).1
   simp(disch:=omega)only[t0,t5,hj4,r2,u2,ls_,p2,go_sem,seval]
   refine po_ _ c4 e4 g4 _ ((aQ_ (bj_ aL_ [.str]) e3 ((aQ_ (bj_ aL_ [.str]) e2 (z+1+1)).2)).2) _ (hw4.keep fun x hx=>?_) nd_4 hc4 (by omega) (by omega) (fun H3 m3 x3 y3 v3=>?_)
   ·first|rfl|exact getElem?_set_ne (by rintro rfl;exact hl_4 hx)|((try rw[getElem?_set_ne (by rintro rfl;exact hl_4 hx)]);rw[y2 x (by intro hq;first|(simp_all;done)|exact nd.2.2 _ hq _ hx rfl|exact nd.2.2 _ hx _ hq rfl|grind)];(try rw[getElem?_set_ne (by rintro rfl;exact hl_4 hx)]);rw[y1 x (by intro hq;first|(simp_all;done)|exact nd.2.2 _ hq _ hx rfl|exact nd.2.2 _ hx _ hq rfl|grind)];(try rw[getElem?_set_ne (by rintro rfl;exact hl_4 hx)]))
   have hq4:(aQ_ (bj_ aL_ [.int]) e4 ((aQ_ (bj_ aL_ [.str]) e3 ((aQ_ (bj_ aL_ [.str]) e2 (z+1+1)).2)).2)).2=(aQ_ (bj_ aL_ [.str]) e3 ((aQ_ (bj_ aL_ [.str]) e2 (z+1+1)).2)).2+(ba_ (aY_ [.int]) e4:Nat):=dR_ (fun x _ k=>ee_ _ x k) _
   have p3:=(y3 l hl_4).trans (by first|exact un2 _|exact p2)
   have un3:∀r,(H3.set l r)[l]?=some r:=fun r=>getElem?_set_self (List.getElem?_eq_some_iff.1 p3).1
   simp(disch:=omega)only[t5,go_sem,seval]
   refine⟨seg.length-(i+1),by omega,hJ _ _ _ ⟨i+1,rs.set (lo+i) _,by simp[upd,t0],by rw[hst];simp[upd,bj_,bi_],by simp[upd],hfin _ _ _ ?_ (by first|exact un3 _|exact p3) ?_ ?_,rfl,by omega,by simpa using hrl1,by rw[hst];exact hss _⟩⟩
   ·simp only[ls_,x1,x2,x3]
   ·intro x hx
    simp only[mem_cons,mem_append,not_or,append_nil]at hx
    try rw[getElem?_set_ne (Ne.symm hx.1)]
    rw[y3 x (by intro hq;first|(simp_all;done)|exact nd.2.2 _ hq _ hx rfl|exact nd.2.2 _ hx _ hq rfl|grind)]
    try rw[getElem?_set_ne (Ne.symm hx.1)]
    rw[y2 x (by intro hq;first|(simp_all;done)|exact nd.2.2 _ hq _ hx rfl|exact nd.2.2 _ hx _ hq rfl|grind)]
    try rw[getElem?_set_ne (Ne.symm hx.1)]
    rw[y1 x (by intro hq;first|(simp_all;done)|exact nd.2.2 _ hq _ hx rfl|exact nd.2.2 _ hx _ hq rfl|grind)]
    try rw[getElem?_set_ne (Ne.symm hx.1)]
   ·simp only[bj_,bi_]
    exact⟨_,(aJ_.mk_val _ (aJ_.mk_val _ (aJ_.mk_list (v1.keep fun x hx=>by first|rfl|((try rw[getElem?_set_ne (by rintro rfl;exact hl_2 hx)]);rw[y3 x (by intro hq;first|(simp_all;done)|exact nd.2.2 _ hq _ hx rfl|exact nd.2.2 _ hx _ hq rfl|grind)];(try rw[getElem?_set_ne (by rintro rfl;exact hl_2 hx)]);rw[y2 x (by intro hq;first|(simp_all;done)|exact nd.2.2 _ hq _ hx rfl|exact nd.2.2 _ hx _ hq rfl|grind)];(try rw[getElem?_set_ne (by rintro rfl;exact hl_2 hx)]))) (aJ_.mk_list (v2.keep fun x hx=>by first|rfl|((try rw[getElem?_set_ne (by rintro rfl;exact hl_3 hx)]);rw[y3 x (by intro hq;first|(simp_all;done)|exact nd.2.2 _ hq _ hx rfl|exact nd.2.2 _ hx _ hq rfl|grind)];(try rw[getElem?_set_ne (by rintro rfl;exact hl_3 hx)]))) (aJ_.mk_list (v3.keep fun x hx=>by first|rfl|((try rw[getElem?_set_ne (by rintro rfl;exact hl_4 hx)]))) (aJ_.mk_nil (Own _ (0+1))))))))⟩
  ·obtain⟨m,es,r1,r2,_⟩:=hM.out
   have e1:seg.take i=seg:=take_of_length_le (by omega)
   have e2:seg.drop i=[]:=drop_eq_nil_of_le (by omega)
   rw[e1]at t1 hS
   rw[e2,append_nil]at hS
   simp(disch:=omega)only[t0,t1,t5,hlt,hsl,hlo,r1,r2,go_sem,seval]
   exact hK _ rs hM hS
theorem qR_(es:List (List AV))(k:Int)(hsh:∀e∈es,aS_ [.int,.bool,.list [.str],.list [.str],.list [.int]] e)(hk:0≤k)(hb:k+ba_ (aY_ [.int,.bool,.list [.str],.list [.str],.list [.int]]) es≤4611686018427387904)(h:List Row):aa_ prog 43 [.list 0 5 es,.val (.int .i64 k)] h (.val (.int .i64 (bt_ (bn_ aL_ [.int,.bool,.list [.str],.list [.str],.list [.int]]) es k))):=by
 refine ar_ mixed Tryz.func43 CU_ rfl rfl ?_ h
 have hsn:es.length≤ba_ (aY_ [.int,.bool,.list [.str],.list [.str],.list [.int]]) es:=gQ_ (c:=aY_ [.int,.bool,.list [.str],.list [.str],.list [.int]]) (fun e he=>by have q:=hsh e he;unfold aS_ at q;obtain⟨c,r,rfl,_,_⟩:=q;simp only[aY_,aU_];omega)
 simp(disch:=omega)only[zv_,c43,go_sem,Int.reduceNeg]
 refine aK_ (fun n t h=>∃(i:Nat) (z:Int),t 0=.list 0 5 es∧t 1=.val (.int .i64 z)∧t 5=.val (.int .i64 i)∧n=es.length-i∧i≤es.length∧0≤z∧z+ba_ (aY_ [.int,.bool,.list [.str],.list [.str],.list [.int]]) (es.drop i)≤4611686018427387904∧bt_ (bn_ aL_ [.int,.bool,.list [.str],.list [.str],.list [.int]]) es k=bt_ (bn_ aL_ [.int,.bool,.list [.str],.list [.str],.list [.int]]) (es.drop i) z) es.length ⟨0,k,rfl,rfl,rfl,rfl,Nat.zero_le _,hk,hb,rfl⟩ ?_
 rintro J hJ n t h ⟨i,z,t0,t1,t5,rfl,hi,hz0,hzb,hS⟩
 by_cases hlt:i<es.length
 ·rw[mw_ hlt]at hS
  rw[qC_ hlt]at hzb
  have hsd:=hsh _ (getElem_mem hlt)
  obtain⟨d,hd⟩:∃d,es[i]=d:=⟨_,rfl⟩
  rw[hd]at hS hzb hsd
  have hg:es[i]?=some d:=by rw[getElem?_eq_getElem hlt,hd]
  unfold aS_ at hsd
  obtain⟨_,d0,hd0,hc0,hsd⟩:=hsd
  unfold bo_ at hc0
  obtain⟨n0,rfl⟩:=hc0
  unfold aS_ at hsd
  obtain⟨_,d1,hd1,hc1,hsd⟩:=hsd
  unfold bo_ at hc1
  obtain⟨b1,rfl⟩:=hc1
  unfold aS_ at hsd
  obtain⟨_,d2,hd2,hc2,hsd⟩:=hsd
  unfold bo_ at hc2
  obtain⟨e2,rfl,hc2⟩:=hc2
  unfold aS_ at hsd
  obtain⟨_,d3,hd3,hc3,hsd⟩:=hsd
  unfold bo_ at hc3
  obtain⟨e3,rfl,hc3⟩:=hc3
  unfold aS_ at hsd
  obtain⟨_,d4,hd4,hc4,hsd⟩:=hsd
  unfold bo_ at hc4
  obtain⟨e4,rfl,hc4⟩:=hc4
  unfold aS_ at hsd
  subst hsd
  subst hd4
  subst hd3
  subst hd2
  subst hd1
  subst hd0
  simp only[aY_,aU_,Nat.add_zero]at hzb
  simp(disch:=omega)only[t0,t1,t5,hlt,hg,go_sem,seval]
  by_cases q0:n0=z
  case neg =>
   simp(disch:=omega)only[q0,go_sem,seval]
   exact aG_ (by rw[hS];exact(es_ (by simp(disch:=first|assumption|omega)only[oI_])).symm)
  simp(disch:=omega)only[t0,t1,t5,hg,q0,go_sem,seval]
  by_cases q1:b1=decide ((z+1) % 3=0)
  case neg =>
   simp(disch:=omega)only[q1,go_sem,seval]
   exact aG_ (by rw[hS];exact(es_ (by simp(disch:=first|assumption|omega)only[gN_,tq_])).symm)
  simp(disch:=omega)only[t0,t5,hg,q1,go_sem,seval]
  refine aa_.call (jf_ e2 (z+1+1) hc2 (by omega) (by omega) _) ?_
  have hq2:=h2_ (c:=aY_ [.str]) (fun e he k hk=>hV_ (mt:=aL_) [.str] e k (hc2 e he) hk) (z+1+1) (by omega)
  by_cases q2:(bt_ (bn_ aL_ [.str]) e2 (z+1+1))<0
  ·simp(disch:=omega)only[q2,go_sem,seval]
   exact aG_ (by rw[hS];exact(es_ (by simp(disch:=first|assumption|omega)only[gN_,iM_,j0_])).symm)
  simp(disch:=omega)only[t0,t5,hg,q2,go_sem,seval]
  refine aa_.call (jf_ e3 ((bt_ (bn_ aL_ [.str]) e2 (z+1+1))) hc3 (by omega) (by omega) _) ?_
  have hq3:=h2_ (c:=aY_ [.str]) (fun e he k hk=>hV_ (mt:=aL_) [.str] e k (hc3 e he) hk) ((bt_ (bn_ aL_ [.str]) e2 (z+1+1))) (by omega)
  by_cases q3:(bt_ (bn_ aL_ [.str]) e3 ((bt_ (bn_ aL_ [.str]) e2 (z+1+1))))<0
  ·simp(disch:=omega)only[q3,go_sem,seval]
   exact aG_ (by rw[hS];exact(es_ (by simp(disch:=first|assumption|omega)only[gN_,iM_,lj_,j0_])).symm)
  simp(disch:=omega)only[t0,t5,hg,q3,go_sem,seval]
  refine aa_.call (pw_ e4 ((bt_ (bn_ aL_ [.str]) e3 ((bt_ (bn_ aL_ [.str]) e2 (z+1+1))))) hc4 (by omega) (by omega) _) ?_
  have hq4:=h2_ (c:=aY_ [.int]) (fun e he k hk=>hV_ (mt:=aL_) [.int] e k (hc4 e he) hk) ((bt_ (bn_ aL_ [.str]) e3 ((bt_ (bn_ aL_ [.str]) e2 (z+1+1))))) (by omega)
  by_cases q4:(bt_ (bn_ aL_ [.int]) e4 ((bt_ (bn_ aL_ [.str]) e3 ((bt_ (bn_ aL_ [.str]) e2 (z+1+1))))))<0
  ·simp(disch:=omega)only[q4,go_sem,seval]
   exact aG_ (by rw[hS];exact(es_ (by simp(disch:=first|assumption|omega)only[gN_,iM_,lj_,j0_])).symm)
  simp(disch:=omega)only[t5,q4,go_sem,seval]
  exact⟨es.length-(i+1),by omega,hJ _ _ _ ⟨i+1,(bt_ (bn_ aL_ [.int]) e4 ((bt_ (bn_ aL_ [.str]) e3 ((bt_ (bn_ aL_ [.str]) e2 (z+1+1)))))),by simp[upd,t0],by simp[upd],by simp[upd],rfl,by omega,by omega,by omega,by rw[hS];exact im_ (by simp(disch:=first|assumption|omega)only[gN_,iM_,lj_,mg_]) (by omega)⟩⟩
 ·simp(disch:=omega)only[t0,t1,t5,hlt,go_sem,seval]
  exact aG_ (by rw[hS,drop_eq_nil_of_le (by omega)];rfl)
theorem oA_(x:af_):aS_ [.int,.list [.int,.bool,.list [.str],.list [.str],.list [.int]]] (af_.cells x):=by
 simp only[af_.cells,aS_,bo_]
 exact⟨_,_,rfl,⟨_,rfl⟩,⟨_,_,rfl,⟨_,rfl,uQ_ _⟩,rfl⟩⟩
theorem kd_(x:af_)(hb:af_.sz x≤1048576):bV_ [.int,.list [.int,.bool,.list [.str],.list [.str],.list [.int]]] (af_.cells x)≤6 * 1048576:=by
 have c0:=sz_ (x.Slots)
 have hsz0:∀y:af_,af_.sz y=(az_ ab_.sz) y.Slots:=fun _=>rfl
 simp only[hsz0]at *
 simp only[af_.cells,bV_,aU_]
 omega
theorem pJ_(x:af_)(hb:af_.sz x≤1048576):cb_ prog 9 [.agg (af_.cells x)] (.agg (af_.cells x)) (fun a=>∃l_Slots,a=.agg [.val (.int .i64 x.Root),.own l_Slots (x.Slots).length]):=by
 have hsz:af_.sz x=(az_ ab_.sz) x.Slots:=rfl
 refine fe_ mixed Tryz.func9 Bm_ rfl (fun h0=>?_)
 simp(disch:=omega)only[lf9,c9,af_.cells,go_sem,seval]
 refine pk_ x.Slots (by omega) _ _ (fun av1 hn1 hf1 hq1=>?_)
 obtain⟨l_Slots,rfl⟩:=hq1
 simp(disch:=omega)only[go_sem,seval,fb_]
 exact⟨_,rfl,kV_ (aN_.val _ (aN_.cons ((hf1.b.keep fun l q1 q2=>pre3 (t:=[]) (by simp) q1 q2).widen (by first|omega|(simp;done)|(simp;omega)) (Nat.le_refl _)) (aN_.nil _ _ _) ⟨(by first|omega|(simp;done)|(simp;omega)),(by first|omega|(simp;done)|(simp;omega))⟩)),l_Slots,rfl⟩
theorem kD_:xx_ prog 12 aL_ [.int,.list [.int,.bool,.list [.str],.list [.str],.list [.int]]]:=by
 intro m cs ds f H k K ho_0 nd hsh hk hb hK
 unfold aS_ at hsh
 obtain⟨_,d0,hd0,hc0,hsh⟩:=hsh
 unfold bo_ at hc0
 obtain⟨n0,rfl⟩:=hc0
 unfold aS_ at hsh
 obtain⟨_,d1,hd1,hc1,hsh⟩:=hsh
 unfold bo_ at hc1
 obtain⟨e1,rfl,hc1⟩:=hc1
 unfold aS_ at hsh
 subst hsh
 subst hd1
 subst hd0
 simp only[bV_,aU_,Nat.add_zero]at hb
 have hlt:∀x∈f,x<H.length:=fun x hx=>by
  obtain⟨row,_,_,_,q,_⟩:=aJ_.inner (fun a r f ho=>Own.inner ho) ho_0 x hx
  exact(List.getElem?_eq_some_iff.1 q).1
 obtain⟨q0,rfl,ho_1⟩:=ho_0.inv_val
 obtain⟨c1,q1,g1,w1,rfl,rfl,hw1,ho_2⟩:=ho_1.inv_cons
 obtain⟨rfl,rfl⟩:=ho_2.inv_nil
 simp only[append_nil]at nd hlt
 have nd_1:g1.Nodup:=by first|exact nd|exact nd.1|exact nd.2.1|(simp_all;done)
 have hl_1:∀x∈g1,x<H.length:=fun x hx=>hlt x (by simp[hx])
 have cc1:=hw1.cell_list
 simp only[AV.cell,Value.oneCell']at cc1
 refine aF_ mixed Tryz.func12 C5_ (a9_ rfl ?_)
 simp(disch:=omega)only[A0_,c12,cc1,go_sem,seval]
 refine qU_ _ c1 e1 g1 _ (k) _ (hw1.keep fun x hx=>?_) nd_1 hc1 (by omega) (by omega) (fun H1 m1 x1 y1 v1=>?_)
 ·exact getElem?_append_left (hl_1 x hx)
 have hq1:(aQ_ (bj_ aL_ [.int,.bool,.list [.str],.list [.str],.list [.int]]) e1 (k)).2=k+(ba_ (aY_ [.int,.bool,.list [.str],.list [.str],.list [.int]]) e1:Nat):=dR_ (fun x _ k=>ee_ _ x k) _
 have p1:=(y1 H.length (fun hq=>by have:=hl_1 _ hq;omega)).trans (fS_ _ _)
 simp(disch:=omega)only[go_sem,↓reduceIte]
 have hfr:∀x,x<H.length→x∉(g1)→H1[x]?=H[x]?:=by
  intro x hx hxf
  try simp only[mem_append,not_or]at hxf
  rw[y1 x (by intro hq;first|(simp_all;done)|exact nd.2.2 _ hq _ hx rfl|exact nd.2.2 _ hx _ hq rfl|grind)]
  exact getElem?_append_left hx
 have hfin:=hK H1 (by simp only[x1,la_];omega) (fun x hx hxf=>hfr x hx (by simpa using hxf)) (by simp only[bq_,bi_];exact⟨_,(aJ_.mk_val _ (aJ_.mk_list (v1.keep fun x hx=>by rfl) (aJ_.mk_nil (Own _ (0+1)))))⟩)
 simp only[bq_,bi_]at hfin
 exact hfin
theorem kv_(ds:List AV)(k:Int)(hsh:aS_ [.int,.list [.int,.bool,.list [.str],.list [.str],.list [.int]]] ds)(hp:ds.all AV.flat=true)(hk:0≤k)(hb:k+bV_ [.int,.list [.int,.bool,.list [.str],.list [.str],.list [.int]]] ds≤4611686018427387904)(h:List Row):aa_ prog 13 [.agg ds,.val (.int .i64 k)] h (.val (.int .i64 (fN_ aL_ [.int,.list [.int,.bool,.list [.str],.list [.str],.list [.int]]] ds k))):=by
 unfold aS_ at hsh
 obtain⟨_,d0,hd0,hc0,hsh⟩:=hsh
 unfold bo_ at hc0
 obtain⟨n0,rfl⟩:=hc0
 unfold aS_ at hsh
 obtain⟨_,d1,hd1,hc1,hsh⟩:=hsh
 unfold bo_ at hc1
 obtain⟨e1,rfl,hc1⟩:=hc1
 unfold aS_ at hsh
 subst hsh
 subst hd1
 subst hd0
 refine ar_ mixed Tryz.func13 CI_ rfl (by simp only[all_cons,all_nil,AV.plain,hp];rfl) ?_ h
 simp only[bV_,aU_,Nat.add_zero]at hb
 simp(disch:=omega)only[BX_,c13,go_sem,seval]
 refine aa_.call (qR_ e1 (k) hc1 (by omega) (by omega) _) ?_
 have hq1:=h2_ (c:=aY_ [.int,.bool,.list [.str],.list [.str],.list [.int]]) (fun e he k hk=>hV_ (mt:=aL_) [.int,.bool,.list [.str],.list [.str],.list [.int]] e k (hc1 e he) hk) (k) (by omega)
 by_cases q1:(bt_ (bn_ aL_ [.int,.bool,.list [.str],.list [.str],.list [.int]]) e1 (k))<0
 ·simp(disch:=omega)only[q1,go_sem,seval]
  exact aG_ (by simp only[fN_,bH_, *,if_true])
 simp(disch:=omega)only[q1,go_sem,seval]
 exact aG_ (by simp only[fN_,bH_, *,if_false])
end Go.Proofs.YtlcmlgihlojdmaaGreatDoor
