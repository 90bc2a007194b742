/-
 Contracts of functions. Conditions: as each theorem says.
-/
import Derived.Test.YtlcmlgihlojdmaaGreatDoorGnFnExactRepair
import Derived.Test.YtlcmlgihlojdmaaGreatDoorAwC
import Derived.Test.YtlcmlgihlojdmaaGreatDoorPlNum
namespace Go.Proofs.YtlcmlgihlojdmaaGreatDoor
open Tryz (prog)
open List
open Go.AW
set_option linter.unusedVariables false
set_option linter.unusedSimpArgs false
set_option maxRecDepth 4000
def aN_(k:Int):ByteArray:=if k≤0 then txt [109,48]else txt (109::b7_ k.toNat)
theorem rM_(u:Nat)(h:u≠0):b7_ u=b7_ (u / 10)++[UInt8.ofNat (48+u % 10)]:=by
 unfold b7_
 rw[if_neg h,Lib.decDigits]
 by_cases q:u<10
 ·rw[dif_pos q,if_pos (by omega)]
  have:u % 10=u:=by omega
  rw[this];rfl
 ·rw[dif_neg q,if_neg (by omega)]
theorem qR_(u:Nat)(h:u≤4611686018427387904):(b7_ u).length≤19:=by
 unfold b7_
 split
 ·simp
 ·rw[Go.Lib.decDigits_length];exact ho_ 18 _ (by omega)
def c96:LC :=
 .q [.o [.s 2 (.mov (.const (.string ⟨#[]⟩)))],.q [.o [.m 4 0,.bk 5 .leq false 4 0],.k 5 (.q [.o [.s 2 (.mov (.const (.string ⟨#[109,48]⟩)))],.ret]) .skip],.o [.s 3 (.mov (.const (.string ⟨#[]⟩)))],.block 0 (.loop
 (.q [.q [.o [.m 6 0,.bk 7 .gtr false 6 0],.k 7 .skip (.exit 0)],.block 1 (.q [.o [.m 8 0,.bk 9 .rem false 8 10,.s 10 (.bin .add false (.const (.int .i64 48)) (.tmp 9)),.s 11 (.convInt .u8 (.tmp 10)),.s 12
 (.buildSlice 5 1 (.int .u8 0) 1 [(0,.tmp 11)]),.s 13 (.toStr (.tmp 12)),.m 14 3,.bb 15 .add false 13 14,.m 3 15],.o [.m 16 0,.bk 17 .quo false 16 10,.m 0 17]])])),.o [.m 18 3,.s 19 (.bin .add false (.const
 (.string ⟨#[109]⟩)) (.tmp 18)),.m 2 19],.ret]
def wy_:LF:=⟨1,20,c96,[.tmp 2]⟩
theorem CW_:az_ prog Tryz.f96 wy_:=at_
theorem lI_(k:Int)(hk:0≤k)(hb:k≤4611686018427387904)(h:List Row):PureCall prog 96 [.val (.int .i64 k)] h (.val (.string (aN_ k))):=by
 refine ar_ mixed Tryz.func96 CW_ rfl rfl ?_ h
 by_cases h0:k≤0
 ·simp(disch:=omega)only[wy_,c96,h0,go_sem,seval]
  exact bB_ (by rw[aN_,if_pos h0])
 ·simp(disch:=omega)only[wy_,c96,h0,go_sem,seval]
  have hL:=qR_ k.toNat (by omega)
  refine aL_ (fun n t h=>∃(u:Nat) (out:List UInt8),t 0=.val (.int .i64 u)∧t 3=.val (.string (txt out))∧u=n∧u≤4611686018427387904∧b7_ k.toNat=b7_ u++out) k.toNat ⟨k.toNat,[],by simp[upd,gk_];omega,rfl,rfl,by omega,by simp⟩ ?_
  rintro J hJ n t h ⟨u,out,t0,t3,rfl,hu,hS⟩
  by_cases hz:0<u
  ·have hm:=rM_ u (by omega)
   have hlen:=congrArg List.length hS
   simp only[la_]at hlen
   have hl1:([UInt8.ofNat (48+u % 10)]:List UInt8).length+out.length≤9223372036854775807:=by simp only[lc_,ln_];omega
   have e1:((u:Int) % 10).toNat=u % 10:=by omega
   have e2:(48+(u:Int) % 10).toNat=48+u % 10:=by omega
   have e3:((u:Int) / 10)=((u / 10:Nat):Int):=by omega
   simp(disch:=omega)only[t0,t3,hz,e2,e3,je_ _ _ _ hl1,go_sem,seval]
   exact⟨u / 10,by omega,hJ _ _ _ ⟨u / 10,UInt8.ofNat (48+u % 10)::out,by simp[upd],by simp[upd],rfl,by omega,by rw[hS,hm,append_assoc];rfl⟩⟩
  ·have hz':u=0:=by omega
   subst hz'
   have hlen:=congrArg List.length hS
   simp only[la_]at hlen
   have hl2:([109]:List UInt8).length+out.length≤9223372036854775807:=by simp only[lc_,ln_];omega
   simp(disch:=omega)only[t0,t3,je_ _ _ _ hl2,go_sem,seval]
   exact bB_ (by rw[aN_,if_neg h0,hS];rfl)
def c51:LC :=
 .q [.o [.ki 4 0],.q [.o [.ki 5 0],.block 0 (.loop (.q [.q [.o [.m 6 5,.m 7 0,.ll 8 7,.bb 9 .lss false 6 8],.k 9 .skip (.exit 0)],.block 1 (.q [.o [.m 12 0,.m 13 5,.m 14 1,.c1 15 96 14,.ia 16 1 12 13,.st 1 16
 15],.o [.m 17 1,.bk 18 .add false 17 1,.m 1 18]]),.o [.m 10 5,.bk 11 .add false 10 1,.m 5 11]]))],.o [.m 19 1,.m 4 19],.ret]
def wk_:LF:=⟨2,20,c51,[.tmp 4]⟩
theorem x9_:az_ prog Tryz.f51 wk_:=at_
def c87:LC :=
 .q [.o [.ki 4 0],.q [.o [.ki 5 0],.block 0 (.loop (.q [.q [.o [.m 6 5,.m 7 0,.ll 8 7,.bb 9 .lss false 6 8],.k 9 .skip (.exit 0)],.block 1 (.q [.q [.dops [.m 12 0,.m 13 5,.ia 14 1 12 13,.ln 15 14,.m 16 1,.c1
 17 96 16,.bb 18 .neq false 15 17],.k 18 (.q [.o [.s 4 (.mov (.const (.int .i64 (-1))))],.ret]) .skip],.o [.m 19 1,.bk 20 .add false 19 1,.m 1 20]]),.o [.m 10 5,.bk 11 .add false 10 1,.m 5 11]]))],.o [.m 21 1,
 .m 4 21],.ret]
def Az_:LF:=⟨2,22,c87,[.tmp 4]⟩
theorem DA_:az_ prog Tryz.f87 Az_:=at_
def c86:LC :=
 .q [.o [.ki 4 0],.q [.o [.ki 5 0],.block 0 (.loop (.q [.q [.o [.m 6 5,.m 7 0,.ll 8 7,.bb 9 .lss false 6 8],.k 9 .skip (.exit 0)],.block 1 (.q [.o [.m 12 0,.m 13 5,.m 14 1,.ia 15 1 12 13,.st 1 15 14],.o [.m 16
 1,.bk 17 .add false 16 1,.m 1 17]]),.o [.m 10 5,.bk 11 .add false 10 1,.m 5 11]]))],.o [.m 18 1,.m 4 18],.ret]
def vw_:LF:=⟨2,19,c86,[.tmp 4]⟩
theorem yJ_:az_ prog Tryz.f86 vw_:=at_
def c88:LC :=
 .q [.o [.ki 4 0],.q [.o [.ki 5 0],.block 0 (.loop (.q [.q [.o [.m 6 5,.m 7 0,.ll 8 7,.bb 9 .lss false 6 8],.k 9 .skip (.exit 0)],.block 1 (.q [.q [.o [.m 12 0,.m 13 5,.ia 14 1 12 13,.ln 15 14,.m 16 1,.bb 17
 .neq false 15 16],.k 17 (.q [.o [.s 4 (.mov (.const (.int .i64 (-1))))],.ret]) .skip],.o [.m 18 1,.bk 19 .add false 18 1,.m 1 19]]),.o [.m 10 5,.bk 11 .add false 10 1,.m 5 11]]))],.o [.m 20 1,.m 4 20],.ret]
def AU_:LF:=⟨2,21,c88,[.tmp 4]⟩
theorem CX_:az_ prog Tryz.f88 AU_:=at_
def c42:LC :=
 .q [.o [.ki 4 0],.q [.o [.ki 5 0],.block 0 (.loop (.q [.q [.o [.m 6 5,.m 7 0,.ll 8 7,.bb 9 .lss false 6 8],.k 9 .skip (.exit 0)],.block 1 (.q [.o [.m 12 0,.m 13 5,.m 14 1,.ia 15 5 12 13,.fa 16 0 15,.st 1 16
 14],.o [.m 17 1,.bk 18 .add false 17 1,.m 1 18],.o [.m 19 0,.m 20 5,.m 21 1,.bk 22 .rem false 21 3,.bk 23 .eql false 22 0,.ia 24 5 19 20,.fa 25 1 24,.fa 26 0 25,.st 1 26 23],.o [.m 27 1,.bk 28 .add false 27
 1,.m 1 28],.o [.m 29 0,.m 30 5,.ia 31 5 29 30,.fa 32 1 31,.fa 33 1 32,.ln 34 33,.m 35 1,.c2 36 51 34 35,.m 1 36],.o [.m 37 0,.m 38 5,.ia 39 5 37 38,.fa 40 1 39,.fa 41 2 40,.ln 42 41,.m 43 1,.c2 44 51 42
 43,.m 1 44],.o [.m 45 0,.m 46 5,.ia 47 5 45 46,.fa 48 1 47,.fa 49 3 48,.ln 50 49,.m 51 1,.c2 52 86 50 51,.m 1 52]]),.o [.m 10 5,.bk 11 .add false 10 1,.m 5 11]]))],.o [.m 53 1,.m 4 53],.ret]
def w8_:LF:=⟨2,54,c42,[.tmp 4]⟩
theorem xU_:az_ prog Tryz.f42 w8_:=at_
def c43:LC :=
 .q [.o [.ki 4 0],.q [.o [.ki 5 0],.block 0 (.loop (.q [.q [.o [.m 6 5,.m 7 0,.ll 8 7,.bb 9 .lss false 6 8],.k 9 .skip (.exit 0)],.block 1 (.q [.q [.o [.m 12 0,.m 13 5,.ia 14 5 12 13,.fa 15 0 14,.ln 16 15,.m
 17 1,.bb 18 .neq false 16 17],.k 18 (.q [.o [.s 4 (.mov (.const (.int .i64 (-1))))],.ret]) .skip],.o [.m 19 1,.bk 20 .add false 19 1,.m 1 20],.q [.o [.m 21 0,.m 22 5,.ia 23 5 21 22,.fa 24 1 23,.fa 25 0 24,.ln
 26 25,.m 27 1,.bk 28 .rem false 27 3,.bk 29 .eql false 28 0,.bb 30 .neq true 26 29],.k 30 (.q [.o [.s 4 (.mov (.const (.int .i64 (-1))))],.ret]) .skip],.o [.m 31 1,.bk 32 .add false 31 1,.m 1 32],.o [.m 33 0,
 .m 34 5,.ia 35 5 33 34,.fa 36 1 35,.fa 37 1 36,.ln 38 37,.m 39 1,.c2 40 87 38 39,.m 1 40],.q [.o [.m 41 1,.bk 42 .lss false 41 0],.k 42 (.q [.o [.s 4 (.mov (.const (.int .i64 (-1))))],.ret]) .skip],.o [.m 43
 0,.m 44 5,.ia 45 5 43 44,.fa 46 1 45,.fa 47 2 46,.ln 48 47,.m 49 1,.c2 50 87 48 49,.m 1 50],.q [.o [.m 51 1,.bk 52 .lss false 51 0],.k 52 (.q [.o [.s 4 (.mov (.const (.int .i64 (-1))))],.ret]) .skip],.o [.m
 53 0,.m 54 5,.ia 55 5 53 54,.fa 56 1 55,.fa 57 3 56,.ln 58 57,.m 59 1,.c2 60 88 58 59,.m 1 60],.o [.m 61 1,.bk 62 .lss false 61 0],.k 62 (.q [.o [.s 4 (.mov (.const (.int .i64 (-1))))],.ret]) .skip]),.o [.m
 10 5,.bk 11 .add false 10 1,.m 5 11]]))],.o [.m 63 1,.m 4 63],.ret]
def Ce_:LF:=⟨2,64,c43,[.tmp 4]⟩
theorem C3_:az_ prog Tryz.f43 Ce_:=at_
def c12:LC :=
 .q [.o [.bx 2 28 0,.ki 4 0],.o [.fa 5 1 2,.ln 6 5,.m 7 1,.c2 8 42 6 7,.m 1 8],.o [.m 9 1,.m 4 9],.ret]
def B3_:LF:=⟨2,10,c12,[.tmp 4]⟩
theorem DF_:az_ prog Tryz.f12 B3_:=at_
def c13:LC :=
 .q [.o [.bx 2 28 0,.ki 4 0],.o [.fa 5 1 2,.ln 6 5,.m 7 1,.c2 8 43 6 7,.m 1 8],.q [.o [.m 9 1,.bk 10 .lss false 9 0],.k 10 (.q [.o [.s 4 (.mov (.const (.int .i64 (-1))))],.ret]) .skip],.o [.m 11 1,.m 4 11],
 .ret]
def CK_:LF:=⟨2,12,c13,[.tmp 4]⟩
theorem De_:az_ prog Tryz.f13 CK_:=at_
theorem lz_(xs:List ByteArray):∀e∈xs.map ah_,aW_ [.str] e:=by
 intro e he
 obtain⟨x,_,q⟩:=mem_map.1 he;subst q
 simp only[aW_,bo_,ah_]
 exact⟨_,_,rfl,⟨_,rfl⟩,rfl⟩
theorem kz_(xs:List ByteArray):a8_ (a0_ [.str]) (xs.map ah_)≤1 * (ay_ ByteArray.size) xs:=by
 refine ii_ (fun x=>?_) xs
 simp only[a0_,aY_]
 omega
theorem ih_(xs:List ByteArray)(hb:(ay_ ByteArray.size) xs≤1048576):b8_ prog 47 [.list 0 1 (xs.map ah_)] (.list 0 1 (xs.map ah_)) (fun a=>∃l,a=.own l xs.length):=by
 have hx:=Nat.le_trans (bU_ (f:=ByteArray.size) (xs:=xs)) hb
 refine eU_ mixed Tryz.func47 yI_ rfl (fun h0=>?_)
 simp(disch:=omega)only[vB_,c47,go_sem,seval]
 refine⟨by omega,by omega,?_⟩
 refine aL_ (fun n t h=>∃k:Nat,t 0=.list 0 1 (xs.map ah_)∧t 3=.own h0.length xs.length∧t 4=.val (.int .i64 k)∧h=h0++[⟨9,1,bI_ (xs.map ah_) [.val (.string (txt []))] k⟩]∧n=xs.length-k∧k≤xs.length) xs.length ?_ ?_
 ·exact⟨0,rfl,rfl,rfl,by rw[fy_];simp,rfl,Nat.zero_le _⟩
 ·rintro J hJ n t h ⟨k,t0,t3,t4,rfl,rfl,hk⟩
  have fl:(bI_ (xs.map ah_) [.val (.string (txt []))] k).length=xs.length:=by rw[eG_ _ _ (by simpa using hk)];simp
  by_cases hlt:k<xs.length
  ·have fg:(bI_ (xs.map ah_) [.val (.string (txt []))] k)[k]?=some [.val (.string (txt []))]:=gw_ _ _ (by simpa using hlt)
   have fs:=fA_ (xs.map ah_) [.val (.string (txt []))] (ah_ xs[k]) (k:=k) (by rw[getElem?_map,getElem?_eq_getElem hlt];rfl)
   simp(disch:=omega)only[t0,t3,t4,hlt,fl,fg,ax_,go_sem,seval,aw_]
   try simp(disch:=omega)only[fs,go_sem]
   exact⟨xs.length-(k+1),by omega,hJ _ _ _ ⟨k+1,by simp[upd,t0],by simp[upd,t3],by simp[upd],by simp[],rfl,by omega⟩⟩
  ·simp(disch:=omega)only[t0,t3,t4,hlt,fl,ax_,go_sem,seval]
   have ff:bI_ (xs.map ah_) [.val (.string (txt []))] k=xs.map ah_:=gv_ _ _ (by simp;omega)
   rw[ff]
   refine⟨_,rfl,(aT_.mkown (lo:=h0.length+1) (hi:=h0.length+1) (bz_.ofVals _ _ _ _ ?_) (by rw[fN_];rfl) (by simp) (Nat.le_refl _) (Nat.lt_succ_self _) (Nat.le_refl _)).fresh,_,rfl⟩
   intro e he c hc
   obtain⟨x,_,q⟩:=mem_map.1 he;subst q
   simp only[ah_,mem_singleton]at hc
   exact⟨_,hc⟩
theorem i6_:ix_ prog 51 aN_ [.str]:=by
 refine ix_.of ?_ ?_
 ·intro H k K hK
  refine aJ_ mixed Tryz.func51 x9_ (bi_ rfl ?_)
  simp(disch:=omega)only[wk_,c51,go_sem]
  refine aL_ (fun n t h=>t 0=.val (.slice none 0 0)∧t 1=.val (.int .i64 k)∧t 5=.val (.int .i64 0)∧h=H) 0 ⟨rfl,rfl,rfl,rfl⟩ ?_
  rintro J hJ n t h ⟨t0,t1,t5,rfl⟩
  simp(disch:=omega)only[t0,t1,t5,go_sem,seval]
  exact hK
 ·intro l cnt lo hi E rs0 f H0 k K hT hl nd hrl hlo hhi hsh hk hb hK
  refine aJ_ mixed Tryz.func51 x9_ (bi_ rfl ?_)
  obtain⟨seg,hseg⟩:∃seg,seg=(rs0.take hi).drop lo:=⟨_,rfl⟩
  rw[←hseg]at hsh hb hK
  have hsl:hi-lo=seg.length:=by rw[hseg,length_drop,length_take];omega
  have hsn:seg.length≤a8_ (a0_ [.str]) seg:=gT_ (c:=a0_ [.str]) (fun e he=>by have q:=hsh e he;unfold aW_ at q;obtain⟨c,r,rfl,_,_⟩:=q;simp only[a0_,aY_];omega)
  simp(disch:=omega)only[wk_,c51,go_sem]
  refine aL_ (fun n t h=>∃(i:Nat) (rs:List (List AV)),t 0=.sub l cnt lo hi∧t 1=.val (.int .i64 (aS_ (bk_ aN_ [.str]) (seg.take i) k).2)∧t 5=.val (.int .i64 i)∧MT H0 l E 1 cnt f rs h∧n=seg.length-i∧i≤seg.length∧rs.length=cnt∧(rs.take hi).drop lo=(aS_ (bk_ aN_ [.str]) (seg.take i) k).1++seg.drop i) seg.length ⟨0,rs0,rfl,rfl,rfl,hT,rfl,Nat.zero_le _,hrl,hseg.symm⟩ ?_
  rintro J hJ n t h ⟨i,rs,t0,t1,t5,hM,rfl,hi1,hrl1,hS⟩
  by_cases hlt:i<seg.length
  ·have hA:(aS_ (bk_ aN_ [.str]) (seg.take i) k).1.length=i:=by rw[ht_,length_take];omega
   have hst:=lP_ (g:=(bk_ aN_ [.str])) (k:=k) hlt
   have hcn:=jo_ (c:=a0_ [.str]) hlt
   have hzz:(aS_ (bk_ aN_ [.str]) (seg.take i) k).2=k+a8_ (a0_ [.str]) (seg.take i):=dY_ (fun x _ k=>eb_ [.str] x k) k
   have hj4:(lo:Int)+(i:Int)<(hi:Int):=by omega
   have hj2:=(mA_ hS hA hlt).2.1
   have hsd:=hsh _ (getElem_mem hlt)
   have hss:∀d,((rs.set (lo+i) d).take hi).drop lo=((aS_ (bk_ aN_ [.str]) (seg.take i) k).1++[d])++seg.drop (i+1):=fun d=>mp_ hS hA hlt
   clear hS hA
   generalize seg[i]=d at hst hcn hj2 hsd
   obtain⟨z,hz⟩:∃z,z=(aS_ (bk_ aN_ [.str]) (seg.take i) k).2:=⟨_,rfl⟩
   rw[←hz]at hst hzz t1
   have hz0:0≤z:=by omega
   unfold aW_ at hsd
   obtain⟨_,d0,hd0,hc0,hsd⟩:=hsd
   unfold bo_ at hc0
   obtain⟨s0,rfl⟩:=hc0
   unfold aW_ at hsd
   subst hsd
   subst hd0
   simp only[a0_,aY_,Nat.add_zero]at hcn
   obtain⟨m,es,e,f2,r1,r2,r3,ho_0,nd2,hl2,hfin⟩:=hM.elem hl nd hj2
   obtain⟨q0,rfl,ho_1⟩:=ho_0.inv_val
   obtain⟨rfl,rfl⟩:=ho_1.inv_nil
   have u1:∀r,(h.set l r)[l]?=some r:=fun r=>getElem?_set_self (List.getElem?_eq_some_iff.1 r1).1
   have u2:∀x,(es.set (lo+i) x)[lo+i]?=some x:=fun x=>getElem?_set_self (List.getElem?_eq_some_iff.1 r3).1
   simp(disch:=omega)only[t0,t1,t5,hlt,hsl,hlo,r1,r2,go_sem,seval]
   refine PureCall.call (lI_ (z) (by omega) (by omega) _) ?_
   simp(disch:=omega)only[t1,t5,hj4,r1,r2,r3,go_sem,seval]
   refine⟨seg.length-(i+1),by omega,hJ _ _ _ ⟨i+1,rs.set (lo+i) _,by simp[upd,t0],by rw[hst];simp[upd,bk_,bj_],by simp[upd],hfin _ _ _ ?_ (by first|exact u1 _|exact u1 _) ?_ ?_,rfl,by omega,by simpa using hrl1,by rw[hst];exact hss _⟩⟩
   ·simp only[ls_]
   ·intro x hx
    simp only[mem_cons,not_or]at hx
    try rw[getElem?_set_ne (Ne.symm hx.1)]
   ·simp only[bk_,bj_]
    exact⟨_,(aH_.mk_val _ (aH_.mk_nil (Own _ (0+1))))⟩
  ·obtain⟨m,es,r1,r2,_⟩:=hM.out
   have e1:seg.take i=seg:=take_of_length_le (by omega)
   have e2:seg.drop i=[]:=drop_eq_nil_of_le (by omega)
   rw[e1]at t1 hS
   rw[e2,append_nil]at hS
   simp(disch:=omega)only[t0,t1,t5,hlt,hsl,hlo,r1,r2,go_sem,seval]
   exact hK _ rs hM hS
theorem i5_(es:List (List AV))(k:Int)(hsh:∀e∈es,aW_ [.str] e)(hk:0≤k)(hb:k+a8_ (a0_ [.str]) es≤4611686018427387904)(h:List Row):PureCall prog 87 [.list 0 1 es,.val (.int .i64 k)] h (.val (.int .i64 (bt_ (bn_ aN_ [.str]) es k))):=by
 refine ar_ mixed Tryz.func87 DA_ rfl rfl ?_ h
 have hsn:es.length≤a8_ (a0_ [.str]) es:=gT_ (c:=a0_ [.str]) (fun e he=>by have q:=hsh e he;unfold aW_ at q;obtain⟨c,r,rfl,_,_⟩:=q;simp only[a0_,aY_];omega)
 simp(disch:=omega)only[Az_,c87,go_sem,Int.reduceNeg]
 refine aL_ (fun n t h=>∃(i:Nat) (z:Int),t 0=.list 0 1 es∧t 1=.val (.int .i64 z)∧t 5=.val (.int .i64 i)∧n=es.length-i∧i≤es.length∧0≤z∧z+a8_ (a0_ [.str]) (es.drop i)≤4611686018427387904∧bt_ (bn_ aN_ [.str]) es k=bt_ (bn_ aN_ [.str]) (es.drop i) z) es.length ⟨0,k,rfl,rfl,rfl,rfl,Nat.zero_le _,hk,hb,rfl⟩ ?_
 rintro J hJ n t h ⟨i,z,t0,t1,t5,rfl,hi,hz0,hzb,hS⟩
 by_cases hlt:i<es.length
 ·rw[l4_ hlt]at hS
  rw[p8_ hlt]at hzb
  have hsd:=hsh _ (getElem_mem hlt)
  obtain⟨d,hd⟩:∃d,es[i]=d:=⟨_,rfl⟩
  rw[hd]at hS hzb hsd
  have hg:es[i]?=some d:=by rw[getElem?_eq_getElem hlt,hd]
  unfold aW_ at hsd
  obtain⟨_,d0,hd0,hc0,hsd⟩:=hsd
  unfold bo_ at hc0
  obtain⟨s0,rfl⟩:=hc0
  unfold aW_ at hsd
  subst hsd
  subst hd0
  simp only[a0_,aY_,Nat.add_zero]at hzb
  simp(disch:=omega)only[t0,t1,t5,hlt,hg,go_sem,seval]
  refine PureCall.q (lI_ (z) (by omega) (by omega) _) ?_
  by_cases q0:s0=aN_ (z)
  case neg =>
   simp(disch:=omega)only[q0,go_sem,seval]
   exact aK_ (by rw[hS];exact(eu_ (by simp(disch:=first|assumption|omega)only[vm_])).symm)
  simp(disch:=omega)only[t1,t5,q0,go_sem,seval]
  exact⟨es.length-(i+1),by omega,hJ _ _ _ ⟨i+1,z+1,by simp[upd,t0],by simp[upd],by simp[upd],rfl,by omega,by omega,by omega,by rw[hS];exact in_ (by simp(disch:=first|assumption|omega)only[ws_,lR_]) (by omega)⟩⟩
 ·simp(disch:=omega)only[t0,t1,t5,hlt,go_sem,seval]
  exact aK_ (by rw[hS,drop_eq_nil_of_le (by omega)];rfl)
theorem s9_(xs:List Int):∀e∈xs.map aB_,aW_ [.int] e:=by
 intro e he
 obtain⟨x,_,q⟩:=mem_map.1 he;subst q
 simp only[aW_,bo_,aB_]
 exact⟨_,_,rfl,⟨_,rfl⟩,rfl⟩
theorem rB_(xs:List Int):a8_ (a0_ [.int]) (xs.map aB_)≤1 * (ay_ (fun _=>0)) xs:=by
 refine ii_ (fun x=>?_) xs
 simp only[a0_,aY_]
 omega
theorem os_(xs:List Int)(hb:(ay_ (fun _=>0)) xs≤1048576):b8_ prog 155 [.list 0 1 (xs.map aB_)] (.list 0 1 (xs.map aB_)) (fun a=>∃l,a=.own l xs.length):=by
 have hx:=Nat.le_trans (bU_ (f:=(fun _=>0)) (xs:=xs)) hb
 refine eU_ mixed Tryz.func155 vu_ rfl (fun h0=>?_)
 simp(disch:=omega)only[sT_,xu_,go_sem,seval]
 refine⟨by omega,by omega,?_⟩
 refine aL_ (fun n t h=>∃k:Nat,t 0=.list 0 1 (xs.map aB_)∧t 3=.own h0.length xs.length∧t 4=.val (.int .i64 k)∧h=h0++[⟨2,1,bI_ (xs.map aB_) [.val (.int .i64 0)] k⟩]∧n=xs.length-k∧k≤xs.length) xs.length ?_ ?_
 ·exact⟨0,rfl,rfl,rfl,by rw[fy_];simp,rfl,Nat.zero_le _⟩
 ·rintro J hJ n t h ⟨k,t0,t3,t4,rfl,rfl,hk⟩
  have fl:(bI_ (xs.map aB_) [.val (.int .i64 0)] k).length=xs.length:=by rw[eG_ _ _ (by simpa using hk)];simp
  by_cases hlt:k<xs.length
  ·have fg:(bI_ (xs.map aB_) [.val (.int .i64 0)] k)[k]?=some [.val (.int .i64 0)]:=gw_ _ _ (by simpa using hlt)
   have fs:=fA_ (xs.map aB_) [.val (.int .i64 0)] (aB_ xs[k]) (k:=k) (by rw[getElem?_map,getElem?_eq_getElem hlt];rfl)
   simp(disch:=omega)only[t0,t3,t4,hlt,fl,fg,ax_,go_sem,seval,aw_]
   try simp(disch:=omega)only[fs,go_sem]
   exact⟨xs.length-(k+1),by omega,hJ _ _ _ ⟨k+1,by simp[upd,t0],by simp[upd,t3],by simp[upd],by simp[],rfl,by omega⟩⟩
  ·simp(disch:=omega)only[t0,t3,t4,hlt,fl,ax_,go_sem,seval]
   have ff:bI_ (xs.map aB_) [.val (.int .i64 0)] k=xs.map aB_:=gv_ _ _ (by simp;omega)
   rw[ff]
   refine⟨_,rfl,(aT_.mkown (lo:=h0.length+1) (hi:=h0.length+1) (bz_.ofVals _ _ _ _ ?_) (by rw[fN_];rfl) (by simp) (Nat.le_refl _) (Nat.lt_succ_self _) (Nat.le_refl _)).fresh,_,rfl⟩
   intro e he c hc
   obtain⟨x,_,q⟩:=mem_map.1 he;subst q
   simp only[aB_,mem_singleton]at hc
   exact⟨_,hc⟩
theorem pG_:ix_ prog 86 aN_ [.int]:=by
 refine ix_.of ?_ ?_
 ·intro H k K hK
  refine aJ_ mixed Tryz.func86 yJ_ (bi_ rfl ?_)
  simp(disch:=omega)only[vw_,c86,go_sem]
  refine aL_ (fun n t h=>t 0=.val (.slice none 0 0)∧t 1=.val (.int .i64 k)∧t 5=.val (.int .i64 0)∧h=H) 0 ⟨rfl,rfl,rfl,rfl⟩ ?_
  rintro J hJ n t h ⟨t0,t1,t5,rfl⟩
  simp(disch:=omega)only[t0,t1,t5,go_sem,seval]
  exact hK
 ·intro l cnt lo hi E rs0 f H0 k K hT hl nd hrl hlo hhi hsh hk hb hK
  refine aJ_ mixed Tryz.func86 yJ_ (bi_ rfl ?_)
  obtain⟨seg,hseg⟩:∃seg,seg=(rs0.take hi).drop lo:=⟨_,rfl⟩
  rw[←hseg]at hsh hb hK
  have hsl:hi-lo=seg.length:=by rw[hseg,length_drop,length_take];omega
  have hsn:seg.length≤a8_ (a0_ [.int]) seg:=gT_ (c:=a0_ [.int]) (fun e he=>by have q:=hsh e he;unfold aW_ at q;obtain⟨c,r,rfl,_,_⟩:=q;simp only[a0_,aY_];omega)
  simp(disch:=omega)only[vw_,c86,go_sem]
  refine aL_ (fun n t h=>∃(i:Nat) (rs:List (List AV)),t 0=.sub l cnt lo hi∧t 1=.val (.int .i64 (aS_ (bk_ aN_ [.int]) (seg.take i) k).2)∧t 5=.val (.int .i64 i)∧MT H0 l E 1 cnt f rs h∧n=seg.length-i∧i≤seg.length∧rs.length=cnt∧(rs.take hi).drop lo=(aS_ (bk_ aN_ [.int]) (seg.take i) k).1++seg.drop i) seg.length ⟨0,rs0,rfl,rfl,rfl,hT,rfl,Nat.zero_le _,hrl,hseg.symm⟩ ?_
  rintro J hJ n t h ⟨i,rs,t0,t1,t5,hM,rfl,hi1,hrl1,hS⟩
  by_cases hlt:i<seg.length
  ·have hA:(aS_ (bk_ aN_ [.int]) (seg.take i) k).1.length=i:=by rw[ht_,length_take];omega
   have hst:=lP_ (g:=(bk_ aN_ [.int])) (k:=k) hlt
   have hcn:=jo_ (c:=a0_ [.int]) hlt
   have hzz:(aS_ (bk_ aN_ [.int]) (seg.take i) k).2=k+a8_ (a0_ [.int]) (seg.take i):=dY_ (fun x _ k=>eb_ [.int] x k) k
   have hj4:(lo:Int)+(i:Int)<(hi:Int):=by omega
   have hj2:=(mA_ hS hA hlt).2.1
   have hsd:=hsh _ (getElem_mem hlt)
   have hss:∀d,((rs.set (lo+i) d).take hi).drop lo=((aS_ (bk_ aN_ [.int]) (seg.take i) k).1++[d])++seg.drop (i+1):=fun d=>mp_ hS hA hlt
   clear hS hA
   generalize seg[i]=d at hst hcn hj2 hsd
   obtain⟨z,hz⟩:∃z,z=(aS_ (bk_ aN_ [.int]) (seg.take i) k).2:=⟨_,rfl⟩
   rw[←hz]at hst hzz t1
   have hz0:0≤z:=by omega
   unfold aW_ at hsd
   obtain⟨_,d0,hd0,hc0,hsd⟩:=hsd
   unfold bo_ at hc0
   obtain⟨n0,rfl⟩:=hc0
   unfold aW_ at hsd
   subst hsd
   subst hd0
   simp only[a0_,aY_,Nat.add_zero]at hcn
   obtain⟨m,es,e,f2,r1,r2,r3,ho_0,nd2,hl2,hfin⟩:=hM.elem hl nd hj2
   obtain⟨q0,rfl,ho_1⟩:=ho_0.inv_val
   obtain⟨rfl,rfl⟩:=ho_1.inv_nil
   have u1:∀r,(h.set l r)[l]?=some r:=fun r=>getElem?_set_self (List.getElem?_eq_some_iff.1 r1).1
   have u2:∀x,(es.set (lo+i) x)[lo+i]?=some x:=fun x=>getElem?_set_self (List.getElem?_eq_some_iff.1 r3).1
   simp(disch:=omega)only[t0,t1,t5,hlt,hsl,hj4,hlo,r1,r2,r3,go_sem,seval]
   refine⟨seg.length-(i+1),by omega,hJ _ _ _ ⟨i+1,rs.set (lo+i) _,by simp[upd,t0],by rw[hst];simp[upd,bk_,bj_],by simp[upd],hfin _ _ _ ?_ (by first|exact u1 _|exact u1 _) ?_ ?_,rfl,by omega,by simpa using hrl1,by rw[hst];exact hss _⟩⟩
   ·simp only[ls_]
   ·intro x hx
    simp only[mem_cons,not_or]at hx
    try rw[getElem?_set_ne (Ne.symm hx.1)]
   ·simp only[bk_,bj_]
    exact⟨_,(aH_.mk_val _ (aH_.mk_nil (Own _ (0+1))))⟩
  ·obtain⟨m,es,r1,r2,_⟩:=hM.out
   have e1:seg.take i=seg:=take_of_length_le (by omega)
   have e2:seg.drop i=[]:=drop_eq_nil_of_le (by omega)
   rw[e1]at t1 hS
   rw[e2,append_nil]at hS
   simp(disch:=omega)only[t0,t1,t5,hlt,hsl,hlo,r1,r2,go_sem,seval]
   exact hK _ rs hM hS
theorem pA_(es:List (List AV))(k:Int)(hsh:∀e∈es,aW_ [.int] e)(hk:0≤k)(hb:k+a8_ (a0_ [.int]) es≤4611686018427387904)(h:List Row):PureCall prog 88 [.list 0 1 es,.val (.int .i64 k)] h (.val (.int .i64 (bt_ (bn_ aN_ [.int]) es k))):=by
 refine ar_ mixed Tryz.func88 CX_ rfl rfl ?_ h
 have hsn:es.length≤a8_ (a0_ [.int]) es:=gT_ (c:=a0_ [.int]) (fun e he=>by have q:=hsh e he;unfold aW_ at q;obtain⟨c,r,rfl,_,_⟩:=q;simp only[a0_,aY_];omega)
 simp(disch:=omega)only[AU_,c88,go_sem,Int.reduceNeg]
 refine aL_ (fun n t h=>∃(i:Nat) (z:Int),t 0=.list 0 1 es∧t 1=.val (.int .i64 z)∧t 5=.val (.int .i64 i)∧n=es.length-i∧i≤es.length∧0≤z∧z+a8_ (a0_ [.int]) (es.drop i)≤4611686018427387904∧bt_ (bn_ aN_ [.int]) es k=bt_ (bn_ aN_ [.int]) (es.drop i) z) es.length ⟨0,k,rfl,rfl,rfl,rfl,Nat.zero_le _,hk,hb,rfl⟩ ?_
 rintro J hJ n t h ⟨i,z,t0,t1,t5,rfl,hi,hz0,hzb,hS⟩
 by_cases hlt:i<es.length
 ·rw[l4_ hlt]at hS
  rw[p8_ hlt]at hzb
  have hsd:=hsh _ (getElem_mem hlt)
  obtain⟨d,hd⟩:∃d,es[i]=d:=⟨_,rfl⟩
  rw[hd]at hS hzb hsd
  have hg:es[i]?=some d:=by rw[getElem?_eq_getElem hlt,hd]
  unfold aW_ at hsd
  obtain⟨_,d0,hd0,hc0,hsd⟩:=hsd
  unfold bo_ at hc0
  obtain⟨n0,rfl⟩:=hc0
  unfold aW_ at hsd
  subst hsd
  subst hd0
  simp only[a0_,aY_,Nat.add_zero]at hzb
  simp(disch:=omega)only[t0,t1,t5,hlt,hg,go_sem,seval]
  by_cases q0:n0=z
  case neg =>
   simp(disch:=omega)only[q0,go_sem,seval]
   exact aK_ (by rw[hS];exact(eu_ (by simp(disch:=first|assumption|omega)only[oD_])).symm)
  simp(disch:=omega)only[t1,t5,q0,go_sem,seval]
  exact⟨es.length-(i+1),by omega,hJ _ _ _ ⟨i+1,z+1,by simp[upd,t0],by simp[upd],by simp[upd],rfl,by omega,by omega,by omega,by rw[hS];exact in_ (by simp(disch:=first|assumption|omega)only[gO_,lR_]) (by omega)⟩⟩
 ·simp(disch:=omega)only[t0,t1,t5,hlt,go_sem,seval]
  exact aK_ (by rw[hS,drop_eq_nil_of_le (by omega)];rfl)
theorem qg_(x:ai_)(hb:ai_.sz x≤1048576):b8_ prog 120 [.agg (ai_.cells x)] (.agg (ai_.cells x)) (fun a=>∃l_Keys l_Vals l_Kids,a=.agg [.val (.bool x.Leaf),.own l_Keys (x.Keys).length,.own l_Vals (x.Vals).length,.own l_Kids (x.Kids).length]):=by
 have hsz:ai_.sz x=(ay_ ByteArray.size) x.Keys+(ay_ ByteArray.size) x.Vals+(ay_ (fun _=>0)) x.Kids:=rfl
 refine eU_ mixed Tryz.func120 uj_ rfl (fun h0=>?_)
 simp(disch:=omega)only[sP_,wb_,ai_.cells,go_sem,seval]
 refine ih_ x.Keys (by omega) _ _ (fun av1 hn1 hf1 hq1=>?_)
 obtain⟨l_Keys,rfl⟩:=hq1
 simp(disch:=omega)only[go_sem,seval]
 refine ih_ x.Vals (by omega) _ _ (fun av2 hn2 hf2 hq2=>?_)
 obtain⟨l_Vals,rfl⟩:=hq2
 simp(disch:=omega)only[go_sem,seval]
 refine os_ x.Kids (by omega) _ _ (fun av3 hn3 hf3 hq3=>?_)
 obtain⟨l_Kids,rfl⟩:=hq3
 simp(disch:=omega)only[go_sem,seval,e9_]
 exact⟨_,rfl,kE_ (aQ_.val _ (aQ_.cons ((hf1.b.keep fun l q1 q2=>pre3 (t:=hn2++hn3) (by simp) q1 q2).widen (by first|omega|(simp;done)|(simp;omega)) (Nat.le_refl _)) (aQ_.cons ((hf2.b.keep fun l q1 q2=>pre3 (t:=hn3) (by simp) q1 q2).widen (by first|omega|(simp;done)|(simp;omega)) (Nat.le_refl _)) (aQ_.cons ((hf3.b.keep fun l q1 q2=>pre3 (t:=[]) (by simp) q1 q2).widen (by first|omega|(simp;done)|(simp;omega)) (Nat.le_refl _)) (aQ_.nil _ _ _) ⟨(by first|omega|(simp;done)|(simp;omega)),(by first|omega|(simp;done)|(simp;omega))⟩) ⟨(by first|omega|(simp;done)|(simp;omega)),(by first|omega|(simp;done)|(simp;omega))⟩) ⟨(by first|omega|(simp;done)|(simp;omega)),(by first|omega|(simp;done)|(simp;omega))⟩)),l_Keys,l_Vals,l_Kids,rfl⟩
theorem xp_(x:aa_):aW_ [.int,.bool,.list [.str],.list [.str],.list [.int]] (aa_.cells x):=by
 simp only[aa_.cells,aW_,bo_]
 exact⟨_,_,rfl,⟨_,rfl⟩,⟨_,_,rfl,⟨_,rfl⟩,⟨_,_,rfl,⟨_,rfl,lz_ _⟩,⟨_,_,rfl,⟨_,rfl,lz_ _⟩,⟨_,_,rfl,⟨_,rfl,s9_ _⟩,rfl⟩⟩⟩⟩⟩
theorem qY_(x:aa_)(hb:aa_.sz x≤1048576):b8_ prog 72 [.agg (aa_.cells x)] (.agg (aa_.cells x)) (fun a=>∃l_Page_Keys l_Page_Vals l_Page_Kids,a=.agg [.val (.int .i64 x.Id),.val (.bool x.Page.Leaf),.own l_Page_Keys (x.Page.Keys).length,.own l_Page_Vals (x.Page.Vals).length,.own l_Page_Kids (x.Page.Kids).length]):=by
 have hsz:aa_.sz x=ai_.sz x.Page:=rfl
 refine eU_ mixed Tryz.func72 yj_ rfl (fun h0=>?_)
 simp(disch:=omega)only[wZ_,c72,aa_.cells,go_sem,seval]
 refine qg_ x.Page (by omega) _ _ (fun av1 hn1 hf1 hq1=>?_)
 obtain⟨l_Page_Keys,l_Page_Vals,l_Page_Kids,rfl⟩:=hq1
 simp(disch:=omega)only[go_sem,seval,e9_]
 exact⟨_,rfl,kE_ (aQ_.val _ (aQ_.app ((hf1.b.unagg.keep fun l q1 q2=>pre3 (t:=[]) (by simp) q1 q2).widen (by first|omega|(simp;done)|(simp;omega)) (Nat.le_refl _)) (aQ_.nil _ _ _) ⟨(by first|omega|(simp;done)|(simp;omega)),(by first|omega|(simp;done)|(simp;omega))⟩)),l_Page_Keys,l_Page_Vals,l_Page_Kids,rfl⟩
theorem uQ_(xs:List aa_):∀e∈xs.map aa_.cells,aW_ [.int,.bool,.list [.str],.list [.str],.list [.int]] e:=by
 intro e he
 obtain⟨x,_,q⟩:=mem_map.1 he;subst q
 exact xp_ x
theorem sZ_(xs:List aa_):a8_ (a0_ [.int,.bool,.list [.str],.list [.str],.list [.int]]) (xs.map aa_.cells)≤5 * (ay_ aa_.sz) xs:=by
 refine ii_ (fun x=>?_) xs
 have c0:=kz_ (x.Page.Keys)
 have c1:=kz_ (x.Page.Vals)
 have c2:=rB_ (x.Page.Kids)
 have hsz0:∀y:aa_,aa_.sz y=ai_.sz y.Page:=fun _=>rfl
 have hsz1:∀y:ai_,ai_.sz y=(ay_ ByteArray.size) y.Keys+(ay_ ByteArray.size) y.Vals+(ay_ (fun _=>0)) y.Kids:=fun _=>rfl
 simp only[hsz0,hsz1]at *
 simp only[aa_.cells,a0_,aY_]
 omega
theorem pp_(xs:List aa_)(hb:(ay_ aa_.sz) xs≤1048576):b8_ prog 34 [.list 0 5 (xs.map aa_.cells)] (.list 0 5 (xs.map aa_.cells)) (fun a=>∃l,a=.own l xs.length):=by
 have hx:=Nat.le_trans (bU_ (f:=aa_.sz) (xs:=xs)) hb
 refine eU_ mixed Tryz.func34 x0_ rfl (fun h0=>?_)
 simp(disch:=omega)only[wG_,c34,go_sem,seval]
 refine⟨by omega,by omega,?_⟩
 refine aL_ (fun n t h=>∃(k:Nat) (done:List (List AV)) (rest:List Row),t 0=.list 0 5 (xs.map aa_.cells)∧t 3=.own h0.length xs.length∧t 4=.val (.int .i64 k)∧h=h0++⟨79,5,done++List.replicate (xs.length-k) ([.val (.int .i64 0),.val (.bool false),.val (.slice none 0 0),.val (.slice none 0 0),.val (.slice none 0 0)]:List AV)⟩::rest∧n=xs.length-k∧k≤xs.length∧done.length=k∧bz_ (h0.length+1) h.length h done ((xs.take k).map aa_.cells)) xs.length ?_ ?_
 ·exact⟨0,[],[],rfl,rfl,rfl,by simp,rfl,Nat.zero_le _,rfl,.nil _ _ _⟩
 ·rintro J hJ n t h ⟨k,done,rest,t0,t3,t4,rfl,rfl,hk,hd,hF⟩
  have fl:(done++List.replicate (xs.length-k) ([.val (.int .i64 0),.val (.bool false),.val (.slice none 0 0),.val (.slice none 0 0),.val (.slice none 0 0)]:List AV)).length=xs.length:=by simp;omega
  by_cases hlt:k<xs.length
  ·have e1:xs.length-k=(xs.length-(k+1))+1:=by omega
   have fg:(done++List.replicate (xs.length-k) ([.val (.int .i64 0),.val (.bool false),.val (.slice none 0 0),.val (.slice none 0 0),.val (.slice none 0 0)]:List AV))[k]?=some [.val (.int .i64 0),.val (.bool false),.val (.slice none 0 0),.val (.slice none 0 0),.val (.slice none 0 0)]:=by rw[getElem?_append_right (by omega),hd,Nat.sub_self,e1];rfl
   have fs:∀c:List AV,(done++List.replicate (xs.length-k) ([.val (.int .i64 0),.val (.bool false),.val (.slice none 0 0),.val (.slice none 0 0),.val (.slice none 0 0)]:List AV)).set k c=(done++[c])++List.replicate (xs.length-(k+1)) ([.val (.int .i64 0),.val (.bool false),.val (.slice none 0 0),.val (.slice none 0 0),.val (.slice none 0 0)]:List AV):=by
    intro c;rw[set_append_right _ _ (by omega),hd,Nat.sub_self,e1,replicate_succ,set_cons_zero,append_assoc];rfl
   simp(disch:=omega)only[t0,t3,t4,hlt,aa_.cells,ax_,go_sem,seval]
   refine qY_ xs[k] (by have:=gq_ (f:=aa_.sz) (getElem_mem hlt);omega) _ _ (fun av hn hf hq=>?_)
   obtain⟨l_Page_Keys,l_Page_Vals,l_Page_Kids,rfl⟩:=hq
   simp(disch:=omega)only[t4,hlt,fl,fg,fs,go_sem,seval,aw_]
   refine⟨xs.length-(k+1),by omega,hJ _ _ _ ⟨k+1,done++[[.val (.int .i64 xs[k].Id),.val (.bool xs[k].Page.Leaf),.own l_Page_Keys (xs[k].Page.Keys).length,.own l_Page_Vals (xs[k].Page.Vals).length,.own l_Page_Kids (xs[k].Page.Kids).length]],rest++hn,by simp[upd,t0],by simp[upd,t3],by simp[upd],by simp,rfl,by omega,by simp[hd],?_⟩⟩
   rw[take_succ_eq_append_getElem hlt,map_append]
   have hz:=rE_ (r':=⟨79,5,(done++[[.val (.int .i64 xs[k].Id),.val (.bool xs[k].Page.Leaf),.own l_Page_Keys (xs[k].Page.Keys).length,.own l_Page_Vals (xs[k].Page.Vals).length,.own l_Page_Kids (xs[k].Page.Kids).length]])++List.replicate (xs.length-(k+1)) ([.val (.int .i64 0),.val (.bool false),.val (.slice none 0 0),.val (.slice none 0 0),.val (.slice none 0 0)]:List AV)⟩) hF hf
   first|exact hz|simpa using hz
  ·simp(disch:=omega)only[t0,t3,t4,hlt,ax_,go_sem,seval]
   have e1:xs.length-k=0:=by omega
   rw[e1,replicate_zero,append_nil,take_of_length_le (by omega)]at hF
   rw[e1,replicate_zero,append_nil]
   exact⟨_,rfl,tl_ hF (by omega),_,rfl⟩
theorem qK_:ix_ prog 42 aN_ [.int,.bool,.list [.str],.list [.str],.list [.int]]:=by
 refine ix_.of ?_ ?_
 ·intro H k K hK
  refine aJ_ mixed Tryz.func42 xU_ (bi_ rfl ?_)
  simp(disch:=omega)only[w8_,c42,go_sem]
  refine aL_ (fun n t h=>t 0=.val (.slice none 0 0)∧t 1=.val (.int .i64 k)∧t 5=.val (.int .i64 0)∧h=H) 0 ⟨rfl,rfl,rfl,rfl⟩ ?_
  rintro J hJ n t h ⟨t0,t1,t5,rfl⟩
  simp(disch:=omega)only[t0,t1,t5,go_sem,seval]
  exact hK
 ·intro l cnt lo hi E rs0 f H0 k K hT hl nd hrl hlo hhi hsh hk hb hK
  refine aJ_ mixed Tryz.func42 xU_ (bi_ rfl ?_)
  obtain⟨seg,hseg⟩:∃seg,seg=(rs0.take hi).drop lo:=⟨_,rfl⟩
  rw[←hseg]at hsh hb hK
  have hsl:hi-lo=seg.length:=by rw[hseg,length_drop,length_take];omega
  have hsn:seg.length≤a8_ (a0_ [.int,.bool,.list [.str],.list [.str],.list [.int]]) seg:=gT_ (c:=a0_ [.int,.bool,.list [.str],.list [.str],.list [.int]]) (fun e he=>by have q:=hsh e he;unfold aW_ at q;obtain⟨c,r,rfl,_,_⟩:=q;simp only[a0_,aY_];omega)
  simp(disch:=omega)only[w8_,c42,go_sem]
  refine aL_ (fun n t h=>∃(i:Nat) (rs:List (List AV)),t 0=.sub l cnt lo hi∧t 1=.val (.int .i64 (aS_ (bk_ aN_ [.int,.bool,.list [.str],.list [.str],.list [.int]]) (seg.take i) k).2)∧t 5=.val (.int .i64 i)∧MT H0 l E 5 cnt f rs h∧n=seg.length-i∧i≤seg.length∧rs.length=cnt∧(rs.take hi).drop lo=(aS_ (bk_ aN_ [.int,.bool,.list [.str],.list [.str],.list [.int]]) (seg.take i) k).1++seg.drop i) seg.length ⟨0,rs0,rfl,rfl,rfl,hT,rfl,Nat.zero_le _,hrl,hseg.symm⟩ ?_
  rintro J hJ n t h ⟨i,rs,t0,t1,t5,hM,rfl,hi1,hrl1,hS⟩
  by_cases hlt:i<seg.length
  ·have hA:(aS_ (bk_ aN_ [.int,.bool,.list [.str],.list [.str],.list [.int]]) (seg.take i) k).1.length=i:=by rw[ht_,length_take];omega
   have hst:=lP_ (g:=(bk_ aN_ [.int,.bool,.list [.str],.list [.str],.list [.int]])) (k:=k) hlt
   have hcn:=jo_ (c:=a0_ [.int,.bool,.list [.str],.list [.str],.list [.int]]) hlt
   have hzz:(aS_ (bk_ aN_ [.int,.bool,.list [.str],.list [.str],.list [.int]]) (seg.take i) k).2=k+a8_ (a0_ [.int,.bool,.list [.str],.list [.str],.list [.int]]) (seg.take i):=dY_ (fun x _ k=>eb_ [.int,.bool,.list [.str],.list [.str],.list [.int]] x k) k
   have hj4:(lo:Int)+(i:Int)<(hi:Int):=by omega
   have hj2:=(mA_ hS hA hlt).2.1
   have hsd:=hsh _ (getElem_mem hlt)
   have hss:∀d,((rs.set (lo+i) d).take hi).drop lo=((aS_ (bk_ aN_ [.int,.bool,.list [.str],.list [.str],.list [.int]]) (seg.take i) k).1++[d])++seg.drop (i+1):=fun d=>mp_ hS hA hlt
   clear hS hA
   generalize seg[i]=d at hst hcn hj2 hsd
   obtain⟨z,hz⟩:∃z,z=(aS_ (bk_ aN_ [.int,.bool,.list [.str],.list [.str],.list [.int]]) (seg.take i) k).2:=⟨_,rfl⟩
   rw[←hz]at hst hzz t1
   have hz0:0≤z:=by omega
   unfold aW_ at hsd
   obtain⟨_,d0,hd0,hc0,hsd⟩:=hsd
   unfold bo_ at hc0
   obtain⟨n0,rfl⟩:=hc0
   unfold aW_ at hsd
   obtain⟨_,d1,hd1,hc1,hsd⟩:=hsd
   unfold bo_ at hc1
   obtain⟨b1,rfl⟩:=hc1
   unfold aW_ at hsd
   obtain⟨_,d2,hd2,hc2,hsd⟩:=hsd
   unfold bo_ at hc2
   obtain⟨e2,rfl,hc2⟩:=hc2
   unfold aW_ at hsd
   obtain⟨_,d3,hd3,hc3,hsd⟩:=hsd
   unfold bo_ at hc3
   obtain⟨e3,rfl,hc3⟩:=hc3
   unfold aW_ at hsd
   obtain⟨_,d4,hd4,hc4,hsd⟩:=hsd
   unfold bo_ at hc4
   obtain⟨e4,rfl,hc4⟩:=hc4
   unfold aW_ at hsd
   subst hsd
   subst hd4
   subst hd3
   subst hd2
   subst hd1
   subst hd0
   simp only[a0_,aY_,Nat.add_zero]at hcn
   obtain⟨m,es,e,f2,r1,r2,r3,ho_0,nd2,hl2,hfin⟩:=hM.elem hl nd hj2
   obtain⟨q0,rfl,ho_1⟩:=ho_0.inv_val
   obtain⟨q1,rfl,ho_2⟩:=ho_1.inv_val
   obtain⟨c2,q2,g2,w2,rfl,rfl,hw2,ho_3⟩:=ho_2.inv_cons
   obtain⟨c3,q3,g3,w3,rfl,rfl,hw3,ho_4⟩:=ho_3.inv_cons
   obtain⟨c4,q4,g4,w4,rfl,rfl,hw4,ho_5⟩:=ho_4.inv_cons
   obtain⟨rfl,rfl⟩:=ho_5.inv_nil
   simp only[nodup_append,mem_append,append_nil]at nd2 hl2
   have nd_2:g2.Nodup:=by first|exact nd2|exact nd2.1|exact nd2.2.1|(simp_all;done)
   have hl_2:l∉g2:=fun q=>hl2 (by simp[q])
   have nd_3:g3.Nodup:=by first|exact nd2|exact nd2.1|exact nd2.2.1|(simp_all;done)
   have hl_3:l∉g3:=fun q=>hl2 (by simp[q])
   have nd_4:g4.Nodup:=by first|exact nd2|exact nd2.1|exact nd2.2.1|(simp_all;done)
   have hl_4:l∉g4:=fun q=>hl2 (by simp[q])
   have u1:∀r,(h.set l r)[l]?=some r:=fun r=>getElem?_set_self (List.getElem?_eq_some_iff.1 r1).1
   have u2:∀x,(es.set (lo+i) x)[lo+i]?=some x:=fun x=>getElem?_set_self (List.getElem?_eq_some_iff.1 r3).1
   simp(disch:=omega)only[t0,t1,t5,hlt,hsl,hj4,hlo,r1,r2,r3,u1,u2,ls_,set_set,go_sem,seval]
   refine i6_ _ c2 e2 g2 _ (z+1+1) _ (hw2.keep fun x hx=>?_) nd_2 hc2 (by omega) (by omega) (fun H1 m1 x1 y1 v1=>?_)
   ·first|rfl|exact getElem?_set_ne (by rintro rfl;exact hl_2 hx)
   have hq2:(aS_ (bk_ aN_ [.str]) e2 (z+1+1)).2=z+1+1+(a8_ (a0_ [.str]) e2:Nat):=dY_ (fun x _ k=>eb_ _ x k) _
   have p1:=(y1 l hl_2).trans (by first|exact u1 _|exact r1)
   have un1:∀r,(H1.set l r)[l]?=some r:=fun r=>getElem?_set_self (List.getElem?_eq_some_iff.1 p1).1
   simp(disch:=omega)only[t0,t5,hj4,r2,u2,ls_,p1,go_sem,seval]
   refine i6_ _ c3 e3 g3 _ ((aS_ (bk_ aN_ [.str]) e2 (z+1+1)).2) _ (hw3.keep fun x hx=>?_) nd_3 hc3 (by omega) (by omega) (fun H2 m2 x2 y2 v2=>?_)
   ·first|rfl|exact getElem?_set_ne (by rintro rfl;exact hl_3 hx)|((try rw[getElem?_set_ne (by rintro rfl;exact hl_3 hx)]);rw[y1 x (by intro hq;first|(simp_all;done)|exact nd.2.2 _ hq _ hx rfl|exact nd.2.2 _ hx _ hq rfl|grind)];(try rw[getElem?_set_ne (by rintro rfl;exact hl_3 hx)]))
   have hq3:(aS_ (bk_ aN_ [.str]) e3 ((aS_ (bk_ aN_ [.str]) e2 (z+1+1)).2)).2=(aS_ (bk_ aN_ [.str]) e2 (z+1+1)).2+(a8_ (a0_ [.str]) e3:Nat):=dY_ (fun x _ k=>eb_ _ x k) _
   have p2:=(y2 l hl_3).trans (by first|exact un1 _|exact p1)
   have un2:∀r,(H2.set l r)[l]?=some r:=fun r=>getElem?_set_self (List.getElem?_eq_some_iff.1 p2).1
   simp(disch:=omega)only[t0,t5,hj4,r2,u2,ls_,p2,go_sem,seval]
   refine pG_ _ c4 e4 g4 _ ((aS_ (bk_ aN_ [.str]) e3 ((aS_ (bk_ aN_ [.str]) e2 (z+1+1)).2)).2) _ (hw4.keep fun x hx=>?_) nd_4 hc4 (by omega) (by omega) (fun H3 m3 x3 y3 v3=>?_)
   ·first|rfl|exact getElem?_set_ne (by rintro rfl;exact hl_4 hx)|((try rw[getElem?_set_ne (by rintro rfl;exact hl_4 hx)]);rw[y2 x (by intro hq;first|(simp_all;done)|exact nd.2.2 _ hq _ hx rfl|exact nd.2.2 _ hx _ hq rfl|grind)];(try rw[getElem?_set_ne (by rintro rfl;exact hl_4 hx)]);rw[y1 x (by intro hq;first|(simp_all;done)|exact nd.2.2 _ hq _ hx rfl|exact nd.2.2 _ hx _ hq rfl|grind)];(try rw[getElem?_set_ne (by rintro rfl;exact hl_4 hx)]))
   have hq4:(aS_ (bk_ aN_ [.int]) e4 ((aS_ (bk_ aN_ [.str]) e3 ((aS_ (bk_ aN_ [.str]) e2 (z+1+1)).2)).2)).2=(aS_ (bk_ aN_ [.str]) e3 ((aS_ (bk_ aN_ [.str]) e2 (z+1+1)).2)).2+(a8_ (a0_ [.int]) e4:Nat):=dY_ (fun x _ k=>eb_ _ x k) _
   have p3:=(y3 l hl_4).trans (by first|exact un2 _|exact p2)
   have un3:∀r,(H3.set l r)[l]?=some r:=fun r=>getElem?_set_self (List.getElem?_eq_some_iff.1 p3).1
   simp(disch:=omega)only[t5,go_sem,seval]
   refine⟨seg.length-(i+1),by omega,hJ _ _ _ ⟨i+1,rs.set (lo+i) _,by simp[upd,t0],by rw[hst];simp[upd,bk_,bj_],by simp[upd],hfin _ _ _ ?_ (by first|exact un3 _|exact p3) ?_ ?_,rfl,by omega,by simpa using hrl1,by rw[hst];exact hss _⟩⟩
   ·simp only[ls_,x1,x2,x3]
   ·intro x hx
    simp only[mem_cons,mem_append,not_or,append_nil]at hx
    try rw[getElem?_set_ne (Ne.symm hx.1)]
    rw[y3 x (by intro hq;first|(simp_all;done)|exact nd.2.2 _ hq _ hx rfl|exact nd.2.2 _ hx _ hq rfl|grind)]
    try rw[getElem?_set_ne (Ne.symm hx.1)]
    rw[y2 x (by intro hq;first|(simp_all;done)|exact nd.2.2 _ hq _ hx rfl|exact nd.2.2 _ hx _ hq rfl|grind)]
    try rw[getElem?_set_ne (Ne.symm hx.1)]
    rw[y1 x (by intro hq;first|(simp_all;done)|exact nd.2.2 _ hq _ hx rfl|exact nd.2.2 _ hx _ hq rfl|grind)]
    try rw[getElem?_set_ne (Ne.symm hx.1)]
   ·simp only[bk_,bj_]
    exact⟨_,(aH_.mk_val _ (aH_.mk_val _ (aH_.mk_list (v1.keep fun x hx=>by first|rfl|((try rw[getElem?_set_ne (by rintro rfl;exact hl_2 hx)]);rw[y3 x (by intro hq;first|(simp_all;done)|exact nd.2.2 _ hq _ hx rfl|exact nd.2.2 _ hx _ hq rfl|grind)];(try rw[getElem?_set_ne (by rintro rfl;exact hl_2 hx)]);rw[y2 x (by intro hq;first|(simp_all;done)|exact nd.2.2 _ hq _ hx rfl|exact nd.2.2 _ hx _ hq rfl|grind)];(try rw[getElem?_set_ne (by rintro rfl;exact hl_2 hx)]))) (aH_.mk_list (v2.keep fun x hx=>by first|rfl|((try rw[getElem?_set_ne (by rintro rfl;exact hl_3 hx)]);rw[y3 x (by intro hq;first|(simp_all;done)|exact nd.2.2 _ hq _ hx rfl|exact nd.2.2 _ hx _ hq rfl|grind)];(try rw[getElem?_set_ne (by rintro rfl;exact hl_3 hx)]))) (aH_.mk_list (v3.keep fun x hx=>by first|rfl|((try rw[getElem?_set_ne (by rintro rfl;exact hl_4 hx)]))) (aH_.mk_nil (Own _ (0+1))))))))⟩
  ·obtain⟨m,es,r1,r2,_⟩:=hM.out
   have e1:seg.take i=seg:=take_of_length_le (by omega)
   have e2:seg.drop i=[]:=drop_eq_nil_of_le (by omega)
   rw[e1]at t1 hS
   rw[e2,append_nil]at hS
   simp(disch:=omega)only[t0,t1,t5,hlt,hsl,hlo,r1,r2,go_sem,seval]
   exact hK _ rs hM hS
theorem qE_(es:List (List AV))(k:Int)(hsh:∀e∈es,aW_ [.int,.bool,.list [.str],.list [.str],.list [.int]] e)(hk:0≤k)(hb:k+a8_ (a0_ [.int,.bool,.list [.str],.list [.str],.list [.int]]) es≤4611686018427387904)(h:List Row):PureCall prog 43 [.list 0 5 es,.val (.int .i64 k)] h (.val (.int .i64 (bt_ (bn_ aN_ [.int,.bool,.list [.str],.list [.str],.list [.int]]) es k))):=by
 refine ar_ mixed Tryz.func43 C3_ rfl rfl ?_ h
 have hsn:es.length≤a8_ (a0_ [.int,.bool,.list [.str],.list [.str],.list [.int]]) es:=gT_ (c:=a0_ [.int,.bool,.list [.str],.list [.str],.list [.int]]) (fun e he=>by have q:=hsh e he;unfold aW_ at q;obtain⟨c,r,rfl,_,_⟩:=q;simp only[a0_,aY_];omega)
 simp(disch:=omega)only[Ce_,c43,go_sem,Int.reduceNeg]
 refine aL_ (fun n t h=>∃(i:Nat) (z:Int),t 0=.list 0 5 es∧t 1=.val (.int .i64 z)∧t 5=.val (.int .i64 i)∧n=es.length-i∧i≤es.length∧0≤z∧z+a8_ (a0_ [.int,.bool,.list [.str],.list [.str],.list [.int]]) (es.drop i)≤4611686018427387904∧bt_ (bn_ aN_ [.int,.bool,.list [.str],.list [.str],.list [.int]]) es k=bt_ (bn_ aN_ [.int,.bool,.list [.str],.list [.str],.list [.int]]) (es.drop i) z) es.length ⟨0,k,rfl,rfl,rfl,rfl,Nat.zero_le _,hk,hb,rfl⟩ ?_
 rintro J hJ n t h ⟨i,z,t0,t1,t5,rfl,hi,hz0,hzb,hS⟩
 by_cases hlt:i<es.length
 ·rw[l4_ hlt]at hS
  rw[p8_ hlt]at hzb
  have hsd:=hsh _ (getElem_mem hlt)
  obtain⟨d,hd⟩:∃d,es[i]=d:=⟨_,rfl⟩
  rw[hd]at hS hzb hsd
  have hg:es[i]?=some d:=by rw[getElem?_eq_getElem hlt,hd]
  unfold aW_ at hsd
  obtain⟨_,d0,hd0,hc0,hsd⟩:=hsd
  unfold bo_ at hc0
  obtain⟨n0,rfl⟩:=hc0
  unfold aW_ at hsd
  obtain⟨_,d1,hd1,hc1,hsd⟩:=hsd
  unfold bo_ at hc1
  obtain⟨b1,rfl⟩:=hc1
  unfold aW_ at hsd
  obtain⟨_,d2,hd2,hc2,hsd⟩:=hsd
  unfold bo_ at hc2
  obtain⟨e2,rfl,hc2⟩:=hc2
  unfold aW_ at hsd
  obtain⟨_,d3,hd3,hc3,hsd⟩:=hsd
  unfold bo_ at hc3
  obtain⟨e3,rfl,hc3⟩:=hc3
  unfold aW_ at hsd
  obtain⟨_,d4,hd4,hc4,hsd⟩:=hsd
  unfold bo_ at hc4
  obtain⟨e4,rfl,hc4⟩:=hc4
  unfold aW_ at hsd
  subst hsd
  subst hd4
  subst hd3
  subst hd2
  subst hd1
  subst hd0
  simp only[a0_,aY_,Nat.add_zero]at hzb
  simp(disch:=omega)only[t0,t1,t5,hlt,hg,go_sem,seval]
  by_cases q0:n0=z
  case neg =>
   simp(disch:=omega)only[q0,go_sem,seval]
   exact aK_ (by rw[hS];exact(eu_ (by simp(disch:=first|assumption|omega)only[oD_])).symm)
  simp(disch:=omega)only[t0,t1,t5,hg,q0,go_sem,seval]
  by_cases q1:b1=decide ((z+1) % 3=0)
  case neg =>
   simp(disch:=omega)only[q1,go_sem,seval]
   exact aK_ (by rw[hS];exact(eu_ (by simp(disch:=first|assumption|omega)only[gO_,tL_])).symm)
  simp(disch:=omega)only[t0,t5,hg,q1,go_sem,seval]
  refine PureCall.call (i5_ e2 (z+1+1) hc2 (by omega) (by omega) _) ?_
  have hq2:=hR_ (c:=a0_ [.str]) (fun e he k hk=>hJ_ (mt:=aN_) [.str] e k (hc2 e he) hk) (z+1+1) (by omega)
  by_cases q2:(bt_ (bn_ aN_ [.str]) e2 (z+1+1))<0
  ·simp(disch:=omega)only[q2,go_sem,seval]
   exact aK_ (by rw[hS];exact(eu_ (by simp(disch:=first|assumption|omega)only[gO_,il_,jt_])).symm)
  simp(disch:=omega)only[t0,t5,hg,q2,go_sem,seval]
  refine PureCall.call (i5_ e3 ((bt_ (bn_ aN_ [.str]) e2 (z+1+1))) hc3 (by omega) (by omega) _) ?_
  have hq3:=hR_ (c:=a0_ [.str]) (fun e he k hk=>hJ_ (mt:=aN_) [.str] e k (hc3 e he) hk) ((bt_ (bn_ aN_ [.str]) e2 (z+1+1))) (by omega)
  by_cases q3:(bt_ (bn_ aN_ [.str]) e3 ((bt_ (bn_ aN_ [.str]) e2 (z+1+1))))<0
  ·simp(disch:=omega)only[q3,go_sem,seval]
   exact aK_ (by rw[hS];exact(eu_ (by simp(disch:=first|assumption|omega)only[gO_,il_,k0_,jt_])).symm)
  simp(disch:=omega)only[t0,t5,hg,q3,go_sem,seval]
  refine PureCall.call (pA_ e4 ((bt_ (bn_ aN_ [.str]) e3 ((bt_ (bn_ aN_ [.str]) e2 (z+1+1))))) hc4 (by omega) (by omega) _) ?_
  have hq4:=hR_ (c:=a0_ [.int]) (fun e he k hk=>hJ_ (mt:=aN_) [.int] e k (hc4 e he) hk) ((bt_ (bn_ aN_ [.str]) e3 ((bt_ (bn_ aN_ [.str]) e2 (z+1+1))))) (by omega)
  by_cases q4:(bt_ (bn_ aN_ [.int]) e4 ((bt_ (bn_ aN_ [.str]) e3 ((bt_ (bn_ aN_ [.str]) e2 (z+1+1))))))<0
  ·simp(disch:=omega)only[q4,go_sem,seval]
   exact aK_ (by rw[hS];exact(eu_ (by simp(disch:=first|assumption|omega)only[gO_,il_,k0_,jt_])).symm)
  simp(disch:=omega)only[t5,q4,go_sem,seval]
  exact⟨es.length-(i+1),by omega,hJ _ _ _ ⟨i+1,(bt_ (bn_ aN_ [.int]) e4 ((bt_ (bn_ aN_ [.str]) e3 ((bt_ (bn_ aN_ [.str]) e2 (z+1+1)))))),by simp[upd,t0],by simp[upd],by simp[upd],rfl,by omega,by omega,by omega,by rw[hS];exact in_ (by simp(disch:=first|assumption|omega)only[gO_,il_,k0_,lR_]) (by omega)⟩⟩
 ·simp(disch:=omega)only[t0,t1,t5,hlt,go_sem,seval]
  exact aK_ (by rw[hS,drop_eq_nil_of_le (by omega)];rfl)
theorem oz_(x:ae_):aW_ [.int,.list [.int,.bool,.list [.str],.list [.str],.list [.int]]] (ae_.cells x):=by
 simp only[ae_.cells,aW_,bo_]
 exact⟨_,_,rfl,⟨_,rfl⟩,⟨_,_,rfl,⟨_,rfl,uQ_ _⟩,rfl⟩⟩
theorem j2_(x:ae_)(hb:ae_.sz x≤1048576):bX_ [.int,.list [.int,.bool,.list [.str],.list [.str],.list [.int]]] (ae_.cells x)≤6 * 1048576:=by
 have c0:=sZ_ (x.Slots)
 have hsz0:∀y:ae_,ae_.sz y=(ay_ aa_.sz) y.Slots:=fun _=>rfl
 simp only[hsz0]at *
 simp only[ae_.cells,bX_,aY_]
 omega
theorem pI_(x:ae_)(hb:ae_.sz x≤1048576):b8_ prog 9 [.agg (ae_.cells x)] (.agg (ae_.cells x)) (fun a=>∃l_Slots,a=.agg [.val (.int .i64 x.Root),.own l_Slots (x.Slots).length]):=by
 have hsz:ae_.sz x=(ay_ aa_.sz) x.Slots:=rfl
 refine eU_ mixed Tryz.func9 Bb_ rfl (fun h0=>?_)
 simp(disch:=omega)only[lf9,c9,ae_.cells,go_sem,seval]
 refine pp_ x.Slots (by omega) _ _ (fun av1 hn1 hf1 hq1=>?_)
 obtain⟨l_Slots,rfl⟩:=hq1
 simp(disch:=omega)only[go_sem,seval,e9_]
 exact⟨_,rfl,kE_ (aQ_.val _ (aQ_.cons ((hf1.b.keep fun l q1 q2=>pre3 (t:=[]) (by simp) q1 q2).widen (by first|omega|(simp;done)|(simp;omega)) (Nat.le_refl _)) (aQ_.nil _ _ _) ⟨(by first|omega|(simp;done)|(simp;omega)),(by first|omega|(simp;done)|(simp;omega))⟩)),l_Slots,rfl⟩
theorem ka_:ya_ prog 12 aN_ [.int,.list [.int,.bool,.list [.str],.list [.str],.list [.int]]]:=by
 intro m cs ds f H k K ho_0 nd hsh hk hb hK
 unfold aW_ at hsh
 obtain⟨_,d0,hd0,hc0,hsh⟩:=hsh
 unfold bo_ at hc0
 obtain⟨n0,rfl⟩:=hc0
 unfold aW_ at hsh
 obtain⟨_,d1,hd1,hc1,hsh⟩:=hsh
 unfold bo_ at hc1
 obtain⟨e1,rfl,hc1⟩:=hc1
 unfold aW_ at hsh
 subst hsh
 subst hd1
 subst hd0
 simp only[bX_,aY_,Nat.add_zero]at hb
 have hlt:∀x∈f,x<H.length:=fun x hx=>by
  obtain⟨row,_,_,_,q,_⟩:=aH_.inner (fun a r f ho=>Own.inner ho) ho_0 x hx
  exact(List.getElem?_eq_some_iff.1 q).1
 obtain⟨q0,rfl,ho_1⟩:=ho_0.inv_val
 obtain⟨c1,q1,g1,w1,rfl,rfl,hw1,ho_2⟩:=ho_1.inv_cons
 obtain⟨rfl,rfl⟩:=ho_2.inv_nil
 simp only[append_nil]at nd hlt
 have nd_1:g1.Nodup:=by first|exact nd|exact nd.1|exact nd.2.1|(simp_all;done)
 have hl_1:∀x∈g1,x<H.length:=fun x hx=>hlt x (by simp[hx])
 have cc1:=hw1.cell_list
 simp only[AV.cell,Value.oneCell']at cc1
 refine aJ_ mixed Tryz.func12 DF_ (bi_ rfl ?_)
 simp(disch:=omega)only[B3_,c12,cc1,go_sem,seval]
 refine qK_ _ c1 e1 g1 _ (k) _ (hw1.keep fun x hx=>?_) nd_1 hc1 (by omega) (by omega) (fun H1 m1 x1 y1 v1=>?_)
 ·exact getElem?_append_left (hl_1 x hx)
 have hq1:(aS_ (bk_ aN_ [.int,.bool,.list [.str],.list [.str],.list [.int]]) e1 (k)).2=k+(a8_ (a0_ [.int,.bool,.list [.str],.list [.str],.list [.int]]) e1:Nat):=dY_ (fun x _ k=>eb_ _ x k) _
 have p1:=(y1 H.length (fun hq=>by have:=hl_1 _ hq;omega)).trans (fN_ _ _)
 simp(disch:=omega)only[go_sem,↓reduceIte]
 have hfr:∀x,x<H.length→x∉(g1)→H1[x]?=H[x]?:=by
  intro x hx hxf
  try simp only[mem_append,not_or]at hxf
  rw[y1 x (by intro hq;first|(simp_all;done)|exact nd.2.2 _ hq _ hx rfl|exact nd.2.2 _ hx _ hq rfl|grind)]
  exact getElem?_append_left hx
 have hfin:=hK H1 (by simp only[x1,la_];omega) (fun x hx hxf=>hfr x hx (by simpa using hxf)) (by simp only[br_,bj_];exact⟨_,(aH_.mk_val _ (aH_.mk_list (v1.keep fun x hx=>by rfl) (aH_.mk_nil (Own _ (0+1)))))⟩)
 simp only[br_,bj_]at hfin
 exact hfin
theorem kd_(ds:List AV)(k:Int)(hsh:aW_ [.int,.list [.int,.bool,.list [.str],.list [.str],.list [.int]]] ds)(hp:ds.all AV.flat=true)(hk:0≤k)(hb:k+bX_ [.int,.list [.int,.bool,.list [.str],.list [.str],.list [.int]]] ds≤4611686018427387904)(h:List Row):PureCall prog 13 [.agg ds,.val (.int .i64 k)] h (.val (.int .i64 (fS_ aN_ [.int,.list [.int,.bool,.list [.str],.list [.str],.list [.int]]] ds k))):=by
 unfold aW_ at hsh
 obtain⟨_,d0,hd0,hc0,hsh⟩:=hsh
 unfold bo_ at hc0
 obtain⟨n0,rfl⟩:=hc0
 unfold aW_ at hsh
 obtain⟨_,d1,hd1,hc1,hsh⟩:=hsh
 unfold bo_ at hc1
 obtain⟨e1,rfl,hc1⟩:=hc1
 unfold aW_ at hsh
 subst hsh
 subst hd1
 subst hd0
 refine ar_ mixed Tryz.func13 De_ rfl (by simp only[all_cons,all_nil,AV.plain,hp];rfl) ?_ h
 simp only[bX_,aY_,Nat.add_zero]at hb
 simp(disch:=omega)only[CK_,c13,go_sem,seval]
 refine PureCall.call (qE_ e1 (k) hc1 (by omega) (by omega) _) ?_
 have hq1:=hR_ (c:=a0_ [.int,.bool,.list [.str],.list [.str],.list [.int]]) (fun e he k hk=>hJ_ (mt:=aN_) [.int,.bool,.list [.str],.list [.str],.list [.int]] e k (hc1 e he) hk) (k) (by omega)
 by_cases q1:(bt_ (bn_ aN_ [.int,.bool,.list [.str],.list [.str],.list [.int]]) e1 (k))<0
 ·simp(disch:=omega)only[q1,go_sem,seval]
  exact aK_ (by simp only[fS_,bH_, *,if_true])
 simp(disch:=omega)only[q1,go_sem,seval]
 exact aK_ (by simp only[fS_,bH_, *,if_false])
end Go.Proofs.YtlcmlgihlojdmaaGreatDoor
