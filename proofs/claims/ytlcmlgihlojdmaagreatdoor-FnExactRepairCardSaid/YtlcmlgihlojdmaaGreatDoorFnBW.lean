/-
 Contracts of functions. Conditions: as each theorem says.
-/
import Derived.Test.YtlcmlgihlojdmaaGreatDoorShelfG
import Derived.Test.YtlcmlgihlojdmaaGreatDoorFnPG
import Derived.Test.YtlcmlgihlojdmaaGreatDoorFnBI
import Derived.Test.YtlcmlgihlojdmaaGreatDoorFnPB
import Derived.StillTailTactics
import Derived.WalkKit
import Derived.WalkSmall
import Derived.Sort.Grow
import Derived.Laws.Cover1
namespace Go.Proofs.YtlcmlgihlojdmaaGreatDoor
open Go.AW
open Go.Shelf Go.RowKit Go.Lib
set_option linter.unusedVariables false
set_option linter.unusedSimpArgs false
set_option linter.unnecessarySimpa false
open List
set_option maxRecDepth 4000
open Nat (reduceEqDiff reduceLeDiff)
def cfS(x y:ByteArray):Int:=if aP_ x y=true then -1 else if aP_ y x=true then 1 else 0
section
open Go.Sort
set_option maxHeartbeats 4000000
set_option maxRecDepth 100000
theorem B0_(x:ByteArray)(w:World):Calls Tryz.prog 152 #[.string x] w fun e w'=>e=.returned (.bool false)∧w'=w:=by
 go_enter Tryz.func152,Tryz.ntmps152
 go_wp2
 go_ret
 exact⟨by simp,rfl⟩
theorem xs_(x y:ByteArray)(w:World):Calls Tryz.prog 110 #[.string x,.string y] w fun e w'=>e=.returned (.int .i64 (cfS x y))∧w'=w:=by
 go_enter Tryz.func110,Tryz.ntmps110
 go_wp2_with (go_at_call 152;refine(B0_ _ _).mono ?_;rintro e w' ⟨rfl,hw⟩;rw[hw])
 all_goals(go_ret;refine⟨?_,rfl⟩;unfold cfS;simp_all[aP_])
 rename_i h1 _ _ h2
 cases e:Op.bytesLess y.toList x.toList with
 | true=>rfl
 | false=>exact absurd (jx_ _ _ h1 e) h2
theorem DX_(x y:ByteArray)(a a':Value)(W:World):Calls Tryz.prog 109 #[.agg #[.string x,a],.agg #[.string y,a']] W fun e w'=>e=.returned (.int .i64 (cfS x y))∧∃q os',w'=grow (W.drewN q) os':=by
 have hc:=fun(w:World)=>xs_ x y w
 generalize cfS x y=A at hc⊢
 go_enter Tryz.func109,Tryz.ntmps109
 go_wp2_with (go_at_call 110;refine(hc _).mono ?_;rintro e w' ⟨rfl,rfl⟩)
 go_ret
 refine⟨rfl,0,#[.cells #[.string x,a] 55,.cells #[.string y,a'] 55],?_⟩
 rfl
end
theorem ltS(x y:ByteArray):ltOf cfS x y=aP_ x y:=by
 unfold ltOf cfS
 cases h1:aP_ x y
 ·cases h2:aP_ y x<;>simp
 ·simp
theorem DW_:Go.Sort.SWO (ltOf cfS) where
 irrefl x:=by rw[ltS];exact da_ x
 trans x y z h1 h2:=by rw[ltS]at *;exact cN_ h1 h2
 ntrans x y z h1 h2:=by rw[ltS]at *;exact qr_ h2 h1
theorem B2_{V:List Value}(h:V.length=2){x:Value}(hx:∃r,V=x::r):∃a,V=[x,a]:=by
 obtain⟨r,rfl⟩:=hx
 match r,h with
 | [a],_=>exact⟨a,rfl⟩
theorem r8_(V:ByteArray→List Value)(hV:∀x,(V x).length=2)(h1:∀x,∀v∈V x,v.oneCell'=true)(hh:∀x,∃r,V x=.string x::r)(blk off cap:Nat)(ids:List ByteArray)(w:World)(hH:Go.Sort.HoldsK V 2 w blk off ids.toArray)(hblk:blk<w.heap.size)(hsz:ids.length<4611686018427387904) :
 Calls Tryz.prog 108 #[.slice (some ⟨blk,off,none⟩) ids.length cap,.func (.func 109) #[] #[]] w fun e w'=>e=.returned (.tuple #[])∧∃n os,w'=Go.Sort.grow (Go.Sort.putRowK V 2 (Go.Sort.ahead w n) blk off (ids.mergeSort leS).toArray) os:=by
 have eg:∀args w,(callFunc 109 args).run Tryz.prog w=.ok (.enter 109 args) w:=enters_of Tryz.func109 (by kernel_rfl) rfl
 have h:=AnyQ.slices_SortFunc_total Tryz.sortG 2 Tryz.isAgg55 Tryz.sizeOf55 V hV h1 cfS DW_ 109 #[] blk off cap ids.toArray w eg (fun _ _ _ _ x y=>by
  obtain⟨a,e1⟩:=B2_ (hV x) (hh x)
  obtain⟨a',e2⟩:=B2_ (hV y) (hh y)
  rw[e1,e2]
  exact DX_ x y a a' _) hH hblk (by simpa using hsz)
  (fun x y h1 h2=>by
    rw[ltS]at h1 h2
    exact fI_ h1 h2)
 have e:(fun x y:ByteArray=>!(ltOf cfS) y x)=leS:=by
  funext x y
  rw[ltS,leS]
 rw[e]at h
 refine Calls.mono (show Calls Tryz.prog 108 #[.slice (some ⟨blk,off,none⟩) ids.length cap,.func (.func 109) #[] #[]] w _ from h) ?_
 rintro e w' ⟨he,n,os,hw⟩
 exact⟨he,n,os,hw⟩
theorem gb_{ids:List ByteArray}{F:ByteArray→List AV}(hF:∀i∈ids,(∃r,F i=.val (.string i)::r)∧(F i).length=2∧(F i).all AV.cell=true)(hnd:ids.Nodup){l:Nat}{H:List Row}(hl:H[l]?=some ⟨.ty 55,2,ids.map F⟩)(hlen:ids.length≤4000000){K:AV→List Row→Prop}(hk:K (.tup []) (H.set l ⟨.ty 55,2,(ids.mergeSort leS).map F⟩)) :
 callSem Tryz.prog 108 [.own l ids.length,.fn 109 [] []] H K :=
 qP_ (fun s=>.string s) (fun _=>rfl) leS (by omega) (fun V h1 h2 h3 blk off cap ids w h4 h5 h6=>r8_ V h1 h2 h3 blk off cap ids w h4 h5 h6) (fun p cap w=>AnyF.slices_SortFunc_none Tryz.sortG p cap _ w) hF hnd hl (by omega) hk
def iE_(l:List ad_):List (ByteArray×Value):=l.map fun r=>(r.Key,.bool true)
def p5_(l:List ad_)(k:ByteArray):Bool:=l.any fun x=>decide (x.Key=k)
theorem mN_(l:List ad_)(k:ByteArray):(gU_ (iE_ l) k).getD (.bool false)=.bool (p5_ l k):=by
 unfold gU_ iE_ p5_
 induction l with
 | nil=>rfl
 | cons r l ih =>
  rw[map_cons,find?_cons,any_cons]
  by_cases h:r.Key=k
  ·rw[decide_eq_true h];rfl
  ·rw[decide_eq_false h]
   simp only[Bool.false_or]
   exact ih
theorem vf_(l:List ad_)(r:ad_)(h:p5_ l r.Key=false):hd_ (iE_ l) r.Key (.bool true)=iE_ (l++[r]):=by
 unfold iE_
 induction l with
 | nil=>rfl
 | cons x l ih =>
  rw[p5_,any_cons,Bool.or_eq_false_iff,decide_eq_false_iff_not]at h
  rw[map_cons,hd_,if_neg h.1,ih h.2]
  rfl
def c62:LC :=
 .q [.o [.bx 1 28 0,.nl 2,.ki 3 0],.q [.o [.fa 10 1 1,.ln 11 10,.ll 12 11,.bk 13 .gtr false 12 64],.k 13 (.q [.o [.nl 2,.ki 3 1],.ret]) .skip],.o [.s 14 (.buildSlice 55 2 (.agg #[.string ⟨#[]⟩,.string ⟨#[]⟩]) 0
 []),.s 15 (.ext .mkS),.m 4 14,.m 5 15],.q [.o [.fa 16 1 1,.ln 17 16,.ll 18 17,.ki 19 0],.block 0 (.loop (.q [.o [.bb 20 .lss false 19 18],.k 20 .skip (.exit 0),.block 1 (.q [.o [.ia 21 5 17 19,.ld 22 5 21,.s
 7 (.alloc 79 z2z),.st 5 7 22],.q [.o [.fa 23 1 7,.fa 24 0 23,.ln 25 24,.nt 26 25,.m 27 26,.gf 28 27 false 1 7,.gl 29 27 false 4 28,.gc 30 27 false 74 29,.gu 31 27 false 30,.pt 32 27 31],.k 32 (.exit 1)
 .skip],.o [.fa 33 1 7,.fa 34 1 33,.ln 35 34,.ll 36 35,.ki 37 0],.block 2 (.loop (.q [.o [.bb 38 .lss false 37 36],.k 38 .skip (.exit 2),.block 3 (.q [.o [.m 39 37,.ia 40 1 35 37,.ln 41 40,.m 8 39,.m 9 41],.o
 [.m 42 5,.m 43 9,.s 44 (.ext (.lookS (.bool false) false (.tmp 42) (.tmp 43))),.nt 45 44],.k 45 (.q [.o [.m 46 5,.m 47 9,.z (.ext (.updS (.tmp 46) (.tmp 47) (.const (.bool true))))],.o [.m 48 4,.m 49 9,.fa 50 1
 7,.fa 51 2 50,.ln 52 51,.m 53 8,.ia 54 1 52 53,.ln 55 54,.s 56 (.build (.agg #[.string ⟨#[]⟩,.string ⟨#[]⟩]) [(0,1),(1,1)] [(0,.tmp 49),(1,.tmp 55)]),.s 57 (.buildSlice 55 2 (.agg #[.string ⟨#[]⟩,.string
 ⟨#[]⟩]) 1 [(0,.tmp 56)]),.ap 58 55 2 32 48 57,.m 4 58]]) .skip]),.o [.bk 59 .add false 37 1,.m 37 59]]))]),.o [.bk 60 .add false 19 1,.m 19 60]]))],.o [.m 61 4,.s 62 (.call 108 [.tmp 61,.func 109])],.o [.m 63
 4,.m 2 63,.ki 3 0],.ret]
def xl_:LF:=⟨1,64,c62,[.tmp 2,.tmp 3]⟩
theorem xL_:az_ Tryz.prog Tryz.f62 xl_:=at_
theorem mf_(b:ae_)(hx:64<b.Slots.length)(hx2:b.Slots.length≤1048576)(h:List Row) :
 PureCall Tryz.prog 62 [.agg (ae_.cells b)] h (.tup [.val (.slice none 0 0),.val (.int .i64 1)]):=by
 refine ar_ mixed Tryz.func62 xL_ rfl rfl ?_ h
 have q0:((b.Slots.length:Int)>64)=True:=eq_true (by omega)
 simp(disch:=omega)only[xl_,c62,ae_.cells,q0,go_sem,seval]
 exact⟨2,rfl⟩
theorem nF_(b:ae_)(hx:b.Slots.length≤64)(hsm:∀s∈b.Slots,smallP s.Page)(hsz:∀s∈b.Slots,f0_ s.Page.Keys)(h:List Row) :
 PureCall Tryz.prog 62 [.agg (ae_.cells b)] h (.tup [.list 0 2 ((ey_ b.Slots).map ad_.cells),.val (.int .i64 0)]):=by
 refine ar_ mixed Tryz.func62 xL_ rfl rfl ?_ h
 have q0:((b.Slots.length:Int)>64)=False:=eq_false (by omega)
 simp(disch:=omega)only[xl_,c62,ae_.cells,q0,go_sem,seval]
 refine aL_ (fun n t H=>∃(k:Nat) (acc:List ad_),t 4=.own 1 acc.length∧t 5=.mp 2∧t 17=.list 0 5 (b.Slots.map aa_.cells)∧t 18=.val (.int .i64 b.Slots.length)∧t 19=.val (.int .i64 k)∧n=b.Slots.length-k∧k≤b.Slots.length∧3≤H.length∧H[1]?=some ⟨.ty 55,2,acc.map ad_.cells⟩∧H[2]?=some ⟨.smap (iE_ acc),0,[]⟩∧(dc_ b.Slots).foldl dI_ []=(dc_ (b.Slots.drop k)).foldl dI_ acc∧acc.length≤k * 6) b.Slots.length ?_ ?_
 ·exact⟨0,[],rfl,rfl,rfl,rfl,rfl,rfl,Nat.zero_le _,Nat.le_refl _,rfl,rfl,rfl,Nat.zero_le _⟩
 ·rintro J hJ n t H ⟨k,acc,t4,t5,t17,t18,t19,rfl,hk,hlen,o1,o2,hS,hol⟩
  by_cases hlt:k<b.Slots.length
  ·obtain⟨z1,z2,z3⟩:=hsm _ (getElem_mem hlt)
   have z4:=hsz _ (getElem_mem hlt)
   rw[drop_eq_getElem_cons hlt,mQ_,foldl_append]at hS
   have hpk:=fun h=>nT_ b.Slots[k].Page z1 z2 z3 z4 h
   generalize hp:b.Slots[k].Page=p at *
   generalize hid:b.Slots[k].Id=id at *
   unfold ai_.cells at hpk
   have hrl:=kn_ p
   have next:∀(t':Nat→AV) (H':List Row),cf_ p=[]→t' 4=.own 1 acc.length→t' 5=.mp 2→t' 17=.list 0 5 (b.Slots.map aa_.cells)→t' 18=.val (.int .i64 b.Slots.length)→t' 19=.val (.int .i64 ((k+1:Nat):Int))→3≤H'.length→H'[1]?=some ⟨.ty 55,2,acc.map ad_.cells⟩→H'[2]?=some ⟨.smap (iE_ acc),0,[]⟩→J (b.Slots.length-(k+1)) t' H':=fun t' H' e u4 u5 u17 u18 u19 hl p1 p2=>by
    rw[e,foldl_nil]at hS
    exact hJ _ _ _ ⟨k+1,acc,u4,u5,u17,u18,u19,rfl,by omega,hl,p1,p2,hS,by omega⟩
   cases hl:p.Leaf with
   | false =>
    have e0:cf_ p=[]:=by unfold cf_;rw[hl];rfl
    simp(disch:=first|omega|simp only[lzz0_];first|done|omega)only[as_,go_sem,seval,t17,t18,t19,hlt,aa_.cells,hp,hid,hl,aw_]
    exact⟨_,by omega,next _ _ e0 (by simp[upd,t4]) (by simp[upd,t5]) (by simp[upd,t17]) (by simp[upd,t18]) (by simp[upd]) (by simp;omega) ((ab_ (by omega)).trans o1) ((ab_ (by omega)).trans o2)⟩
   | true =>
    rw[hl]at hpk
    cases hpb:pageB p with
    | false =>
     have e0:cf_ p=[]:=by unfold cf_;rw[hpb,Bool.and_false];rfl
     simp(disch:=first|omega|simp only[lzz0_];first|done|omega)only[as_,go_sem,seval,t17,t18,t19,hlt,aa_.cells,hp,hid,hl]
     first|refine PureCall.q (hpk _) ?_|refine PureCall.call (hpk _) ?_
     simp(disch:=first|omega|simp only[lzz0_];first|done|omega)only[go_sem,seval,t19,hpb,aw_]
     exact⟨_,by omega,next _ _ e0 (by simp[upd,t4]) (by simp[upd,t5]) (by simp[upd,t17]) (by simp[upd,t18]) (by simp[upd]) (by simp;omega) ((ab_ (by omega)).trans o1) ((ab_ (by omega)).trans o2)⟩
    | true =>
     have e0:cf_ p=List.zipWith ad_.mk p.Keys p.Vals:=by unfold cf_;rw[hpb,hl];rfl
     have hvl:=(cQ_ hpb hl).2.2.1
     have hkl:(cf_ p).length=p.Keys.length:=by rw[e0,length_zipWith];omega
     simp(disch:=first|omega|simp only[lzz0_];first|done|omega)only[as_,go_sem,seval,t17,t18,t19,hlt,aa_.cells,hp,hid,hl]
     first|refine PureCall.q (hpk _) ?_|refine PureCall.call (hpk _) ?_
     simp(disch:=first|omega|simp only[lzz0_];first|done|omega)only[as_,go_sem,seval,hpb]
     obtain⟨row,hrow⟩:∃row:Row,row=⟨.ty 79,5,[[.val (.int .i64 id),.val (.bool true),.list 0 1 (p.Keys.map ah_),.list 0 1 (p.Vals.map ah_),.list 0 1 (p.Kids.map aB_)]]⟩:=⟨_,rfl⟩
     refine aL_ (fun m t' H'=>∃(j:Nat) (o:List ad_),t' 4=.own 1 o.length∧t' 5=.mp 2∧t' 7=.ptr H.length 1 0 0∧t' 17=.list 0 5 (b.Slots.map aa_.cells)∧t' 18=.val (.int .i64 b.Slots.length)∧t' 19=.val (.int .i64 k)∧t' 35=.list 0 1 (p.Keys.map ah_)∧t' 36=.val (.int .i64 p.Keys.length)∧t' 37=.val (.int .i64 j)∧m=p.Keys.length-j∧j≤p.Keys.length∧H.length+1≤H'.length∧H'[H.length]?=some row∧H'[1]?=some ⟨.ty 55,2,o.map ad_.cells⟩∧H'[2]?=some ⟨.smap (iE_ o),0,[]⟩∧(cf_ p).foldl dI_ acc=((cf_ p).drop j).foldl dI_ o∧o.length≤k * 6+j) p.Keys.length ?_ ?_
     ·exact⟨0,acc,by simp[upd,t4],by simp[upd,t5],by simp[upd],by simp[upd,t17],by simp[upd,t18],by simp[upd,t19],by simp[upd],by simp[upd],by simp[upd],rfl,Nat.zero_le _,by simp,by rw[hrow,getElem?_append_right (Nat.le_refl _),Nat.sub_self];rfl,(ab_ (by omega)).trans o1,(ab_ (by omega)).trans o2,rfl,by omega⟩
     ·rintro J2 hJ2 m t' H' ⟨j,o,u4,u5,u7,u17,u18,u19,u35,u36,u37,rfl,hj,hlen2,oL,p1,p2,hS2,hol2⟩
      have hj6:p.Keys.length≤6:=by omega
      by_cases hlt2:j<p.Keys.length
      ·have hlv:j<p.Vals.length:=by omega
       rw[e0,p7_ (by omega) (by omega),←e0,foldl_cons]at hS2
       cases hh:p5_ o p.Keys[j]with
       | true =>
        have ea:dI_ o ⟨p.Keys[j],p.Vals[j]⟩=o:=if_pos hh
        rw[ea]at hS2
        simp(disch:=first|omega|simp only[lzz0_];first|done|omega)only[go_sem,seval,u5,u35,u36,u37,p2,hlt2,ah_,mN_,hh,aw_]
        exact⟨p.Keys.length-(j+1),by omega,hJ2 _ _ _ ⟨j+1,o,by simp[upd,u4],by simp[upd,u5],by simp[upd,u7],by simp[upd,u17],by simp[upd,u18],by simp[upd,u19],by simp[upd,u35],by simp[upd,u36],by simp[upd],rfl,by omega,hlen2,oL,p1,p2,hS2,by omega⟩⟩
       | false =>
        have ea:dI_ o ⟨p.Keys[j],p.Vals[j]⟩=o++[⟨p.Keys[j],p.Vals[j]⟩]:=by unfold dI_;rw[if_neg (by rw[show(o.any fun x=>decide (x.Key=p.Keys[j]))=false from hh];simp)]
        rw[ea]at hS2
        have es:=vf_ o ⟨p.Keys[j],p.Vals[j]⟩ hh
        simp only at es
        simp(disch:=first|omega|simp only[lzz0_];first|done|omega)only[am_,ab_,as_,ls_,go_sem,seval,u4,u5,u7,u35,u36,u37,p1,p2,oL,hlt2,hrow,ah_,mN_,hh,es,bT_,Option.map_some,aw_]
        refine⟨by omega,by omega,p.Keys.length-(j+1),by omega,hJ2 _ _ _ ⟨j+1,o++[⟨p.Keys[j],p.Vals[j]⟩],by simp[upd],by simp[upd,u5],by simp[upd,u7],by simp[upd,u17],by simp[upd,u18],by simp[upd,u19],by simp[upd,u35],by simp[upd,u36],by simp[upd],rfl,by omega,by simp only[ls_,la_,lc_,ln_];omega,?_,?_,?_,hS2,by simp;omega⟩⟩
        ·(repeat(first|rw[am_ (by omega)]|rw[ab_ (by first|omega|(simp only[ls_];omega))]));exact oL
        ·rw[getElem?_set_self (by simp only[ls_,la_,lc_,ln_];omega),map_append];rfl
        ·(repeat(first|rw[am_ (by omega)]|rw[ab_ (by first|omega|(simp only[ls_];omega))]));exact getElem?_set_self (by omega)
      ·simp(disch:=first|omega|simp only[lzz0_];first|done|omega)only[go_sem,seval,u19,u36,u37,hlt2,aw_]
       rw[drop_eq_nil_of_le (by omega),foldl_nil]at hS2
       rw[hS2]at hS
       exact⟨_,by omega,hJ _ _ _ ⟨k+1,o,by simp[upd,u4],by simp[upd,u5],by simp[upd,u17],by simp[upd,u18],by simp[upd],rfl,by omega,by omega,p1,p2,hS,by omega⟩⟩
  ·have hkl:k=b.Slots.length:=by omega
   rw[hkl,drop_length]at hS
   have hS:(dc_ b.Slots).foldl dI_ []=acc:=hS
   have hn:(acc.map ad_.Key).Nodup:=by rw[←hS];exact jG_ _ _ nodup_nil
   simp(disch:=first|omega|simp only[lzz0_];first|done|omega)only[go_sem,seval,t4,t18,t19,hlt]
   have o1':H[1]?=some ⟨.ty 55,2,(acc.map ad_.Key).map fun k=>(fe_ acc k).cells⟩:=by
    have e:(acc.map ad_.Key).map (fun k=>(fe_ acc k).cells)=acc.map ad_.cells:=by
     conv=>rhs;rw[←uo_ hn]
     rw[map_map,map_map]
     rw[map_map];rfl
    rw[e];exact o1
   have hsort:=fun K hk=>gb_ (ids:=acc.map ad_.Key) (F:=fun k=>(fe_ acc k).cells) (fun i hi=>⟨⟨[.val (.string (fe_ acc i).Value)],by show [AV.val (.string (fe_ acc i).Key),AV.val (.string (fe_ acc i).Value)]=_;rw[uG_]⟩,rfl,rfl⟩) hn o1' (by rw[length_map];omega) (K:=K) hk
   rw[length_map]at hsort
   refine hsort _ ?_
   have hss:=ul_ b.Slots
   rw[hS]at hss
   have he:((acc.map ad_.Key).mergeSort leS).map (fun k=>(fe_ acc k).cells)=(ey_ b.Slots).map ad_.cells:=by
    rw[←hss,map_map];rfl
   have hlen3:acc.length=(ey_ b.Slots).length:=by rw[←hS];exact(kR_ b.Slots).length_eq
   rw[he]
   simp(disch:=first|omega|simp only[lzz0_];first|done|omega)only[go_sem,seval,t4]
   refine⟨4,?_⟩
   show(List.mapM (AW.resolve _ 3) [AV.own 1 acc.length,.val (.int .i64 0)]).map AV.tup=_
   rw[mapM_cons,em_ (n:=1) (r:=⟨.ty 55,2,(ey_ b.Slots).map ad_.cells⟩) (getElem?_set_self (by omega)) (by simp[hlen3]) (oG_ _)]
   rfl
theorem hO_{α:Type}{es:List α}{i m:Nat}(hi:i<m):(List.take (m+1-(i+1)) (List.drop i (List.take (m+1) es)))=(es.take m).drop i:=by
 rw[drop_take,drop_take,take_take]
 congr 1;omega
theorem f9_(a b:Nat):Nat.min a b=min a b:=rfl
def jh_:LC :=
 .q [.o [.nl 6],.o [.m 10 0,.m 11 1,.s 12 (.sliceSl 1 (.tmp 10) (some (.tmp 11)) none)],.o [.m 13 2,.ll 14 13,.m 7 14],.q [.o [.m 15 7,.bk 16 .eql false 15 0],.k 16 (.q [.o [.m 17 0,.m 6 17],.ghost .ret])
 .skip],.o [.m 18 0,.ll 19 18,.m 8 19],.q [.o [.m 20 1,.m 21 8,.bb 22 .eql false 20 21],.k 22 (.q [.o [.m 23 0,.m 24 2,.ap 25 9 1 16 23 24,.m 6 25],.ghost .ret]) .skip],.q [.o [.m 26 8,.m 27 7,.bb 28 .add
 false 26 27,.m 29 0,.s 30 (.capSl (.tmp 29)),.bb 31 .gtr false 28 30],.k 31 (.q [.o [.m 32 0,.m 33 1,.s 34 (.sliceSl 1 (.tmp 32) none (some (.tmp 33))),.m 35 8,.m 36 7,.bb 37 .add false 35 36,.m 38 1,.bb 39
 .sub false 37 38,.s 40 (.appendZ 9 1 16 (.string ⟨#[]⟩) (.tmp 34) (.tmp 39)),.m 9 40],.o [.m 41 9,.m 42 1,.s 43 (.sliceSl 1 (.tmp 41) (some (.tmp 42)) none),.m 44 2,.s 45 (.copySl 1 (.tmp 43) (.tmp 44))],.gops
 [.m 46 9,.m 47 1,.m 48 7,.bb 49 .add false 47 48,.s 50 (.sliceSl 1 (.tmp 46) (some (.tmp 49)) none),.m 51 0,.m 52 1,.s 53 (.sliceSl 1 (.tmp 51) (some (.tmp 52)) none)] [(.s 54 (.copySl 1 (.tmp 50) (.tmp 53)),
 [])],.o [.m 55 9,.m 6 55],.ghost .ret]) .skip],.o [.m 56 0,.m 57 8,.m 58 7,.bb 59 .add false 57 58,.s 60 (.sliceSl 1 (.tmp 56) none (some (.tmp 59))),.m 0 60],.q [.o [.m 61 2,.m 62 0,.m 63 1,.m 64 7,.bb 65
 .add false 63 64,.s 66 (.sliceSl 1 (.tmp 62) (some (.tmp 65)) none),.s 67 (.ovl (.tmp 61) (.tmp 66)),.nt 68 67],.k 68 (.q [.gops [.m 69 0,.m 70 1,.m 71 7,.bb 72 .add false 70 71,.s 73 (.sliceSl 1 (.tmp 69) (some
 (.tmp 72)) none),.m 74 0,.m 75 1,.s 76 (.sliceSl 1 (.tmp 74) (some (.tmp 75)) none)] [(.s 77 (.copySl 1 (.tmp 73) (.tmp 76)),[])],.o [.m 78 0,.m 79 1,.s 80 (.sliceSl 1 (.tmp 78) (some (.tmp 79)) none),.m 81 2,.s
 82 (.copySl 1 (.tmp 80) (.tmp 81))],.o [.m 83 0,.m 6 83],.ghost .ret]) .skip],.o [.m 84 0,.m 85 8,.s 86 (.sliceSl 1 (.tmp 84) (some (.tmp 85)) none),.m 87 2,.s 88 (.copySl 1 (.tmp 86) (.tmp 87))],.o [.m 89 0,.m
 90 1,.s 91 (.sliceSl 1 (.tmp 89) (some (.tmp 90)) none),.m 92 7,.c2 93 164 91 92],.o [.m 94 0,.m 6 94],.ghost .ret]
def hH_:LF:=⟨3,95,jh_,[.tmp 6]⟩
theorem ub_:az_ Tryz.prog Tryz.f133 hH_:=at_
def jJ_:LC :=
 .q [.o [.nl 6],.o [.m 10 0,.m 11 1,.s 12 (.sliceSl 1 (.tmp 10) (some (.tmp 11)) none)],.o [.m 13 2,.ll 14 13,.m 7 14],.q [.o [.m 15 7,.bk 16 .eql false 15 0],.k 16 (.q [.o [.m 17 0,.m 6 17],.ghost .ret])
 .skip],.o [.m 18 0,.ll 19 18,.m 8 19],.q [.o [.m 20 1,.m 21 8,.bb 22 .eql false 20 21],.k 22 (.q [.o [.m 23 0,.m 24 2,.ap 25 2 1 8 23 24,.m 6 25],.ghost .ret]) .skip],.q [.o [.m 26 8,.m 27 7,.bb 28 .add
 false 26 27,.m 29 0,.s 30 (.capSl (.tmp 29)),.bb 31 .gtr false 28 30],.k 31 (.q [.o [.m 32 0,.m 33 1,.s 34 (.sliceSl 1 (.tmp 32) none (some (.tmp 33))),.m 35 8,.m 36 7,.bb 37 .add false 35 36,.m 38 1,.bb 39
 .sub false 37 38,.s 40 (.appendZ 2 1 8 (.int .i64 0) (.tmp 34) (.tmp 39)),.m 9 40],.o [.m 41 9,.m 42 1,.s 43 (.sliceSl 1 (.tmp 41) (some (.tmp 42)) none),.m 44 2,.s 45 (.copySl 1 (.tmp 43) (.tmp 44))],.gops [.m
 46 9,.m 47 1,.m 48 7,.bb 49 .add false 47 48,.s 50 (.sliceSl 1 (.tmp 46) (some (.tmp 49)) none),.m 51 0,.m 52 1,.s 53 (.sliceSl 1 (.tmp 51) (some (.tmp 52)) none)] [(.s 54 (.copySl 1 (.tmp 50) (.tmp 53)),[])],.o
 [.m 55 9,.m 6 55],.ghost .ret]) .skip],.o [.m 56 0,.m 57 8,.m 58 7,.bb 59 .add false 57 58,.s 60 (.sliceSl 1 (.tmp 56) none (some (.tmp 59))),.m 0 60],.q [.o [.m 61 2,.m 62 0,.m 63 1,.m 64 7,.bb 65 .add
 false 63 64,.s 66 (.sliceSl 1 (.tmp 62) (some (.tmp 65)) none),.s 67 (.ovl (.tmp 61) (.tmp 66)),.nt 68 67],.k 68 (.q [.gops [.m 69 0,.m 70 1,.m 71 7,.bb 72 .add false 70 71,.s 73 (.sliceSl 1 (.tmp 69) (some (.tmp
 72)) none),.m 74 0,.m 75 1,.s 76 (.sliceSl 1 (.tmp 74) (some (.tmp 75)) none)] [(.s 77 (.copySl 1 (.tmp 73) (.tmp 76)),[])],.o [.m 78 0,.m 79 1,.s 80 (.sliceSl 1 (.tmp 78) (some (.tmp 79)) none),.m 81 2,.s 82
 (.copySl 1 (.tmp 80) (.tmp 81))],.o [.m 83 0,.m 6 83],.ghost .ret]) .skip],.o [.m 84 0,.m 85 8,.s 86 (.sliceSl 1 (.tmp 84) (some (.tmp 85)) none),.m 87 2,.s 88 (.copySl 1 (.tmp 86) (.tmp 87))],.o [.m 89 0,.m 90
 1,.s 91 (.sliceSl 1 (.tmp 89) (some (.tmp 90)) none),.m 92 7,.c2 93 166 91 92],.o [.m 94 0,.m 6 94],.ghost .ret]
def hB_:LF:=⟨3,95,jJ_,[.tmp 6]⟩
theorem un_:az_ Tryz.prog Tryz.f134 hB_:=at_
theorem ie_{α:Type}{es:List α}{v:α}{lo i m N:Nat}(hN:es.length=N)(hi:i<m)(hm:lo+m<N) :
 List.take (lo+i) (List.take (lo+(i+1)) es++(List.take (lo+(m+1)-(lo+(i+1))) (List.drop (lo+i) (List.take (lo+(m+1)) es))++List.drop (lo+(i+1)+min (min (lo+(m+1)) N-(lo+i)) (lo+(m+1)-(lo+(i+1)))) es)) ++
  (List.take (lo+(m+1)-(lo+i)) [v]++List.drop (lo+i+min 1 (lo+(m+1)-(lo+i))) (List.take (lo+(i+1)) es++(List.take (lo+(m+1)-(lo+(i+1))) (List.drop (lo+i) (List.take (lo+(m+1)) es))++List.drop (lo+(i+1)+min (min (lo+(m+1)) N-(lo+i)) (lo+(m+1)-(lo+(i+1)))) es))) =
 es.take (lo+i)++v::((es.take (lo+m)).drop (lo+i)++es.drop (lo+m+1)):=by
 have e1:lo+(i+1)+min (min (lo+(m+1)) N-(lo+i)) (lo+(m+1)-(lo+(i+1)))=lo+m+1:=by omega
 have e2:lo+i+min 1 (lo+(m+1)-(lo+i))=lo+i+1:=by omega
 have e3:List.take (lo+(m+1)-(lo+i)) [v]=[v]:=take_of_length_le (by simp;omega)
 have e4:(List.take (lo+(i+1)) es).length=lo+i+1:=by rw[length_take];omega
 have e5:List.take (lo+(m+1)-(lo+(i+1))) (List.drop (lo+i) (List.take (lo+(m+1)) es))=(es.take (lo+m)).drop (lo+i):=hO_ (i:=lo+i) (m:=lo+m) (by omega)
 rw[e1,e2,e3,e5,take_append_of_le_length (by omega),take_take,Nat.min_eq_left (by omega),drop_left' e4]
 rfl
set_option maxHeartbeats 1000000 in
theorem eT_{l N lo m lv i:Nat}{H:List Row}{es:List (List AV)}{v:List AV}(hr:H[l]?=some ⟨.ty 9,1,es⟩)(hN:es.length=N)(hm:lo+m<N)(hi:i≤m)(hm2:lo+m≤1073741824)(hc:∀e∈(es.take (lo+m)).drop (lo+i),e.all AV.cell=true)(hv:H[lv]?=some ⟨.ty 9,1,[v]⟩)(hvc:v.all AV.cell=true)(hlv:lv≠l)
 {K:AV→List Row→Prop} (hk:K (.sub l N lo (lo+m+1)) (H.set l ⟨.ty 9,1,es.take (lo+i)++v::((es.take (lo+m)).drop (lo+i)++es.drop (lo+m+1))⟩)):callSem Tryz.prog 133 [.sub l N lo (lo+m),.val (.int .i64 i),.own lv 1] H K:=by
 refine aJ_ mixed Tryz.func133 ub_ (bi_ rfl ?_)
 have hll:=(List.getElem?_eq_some_iff.1 hr).1
 have hvl:=(List.getElem?_eq_some_iff.1 hv).1
 have hlm:lo+m-lo=m:=by omega
 by_cases hlo:lo=0
 ·subst hlo
  simp only[Nat.zero_add]at *
  by_cases him:i=m
  ·subst him
   have e1:(es.take i).drop i=[]:=drop_eq_nil_of_le (by rw[length_take];omega)
   rw[e1,nil_append]at hk
   have e2:i+1≤N:=hm
   simp(disch:=first|omega|simp only[lzz0_];first|done|omega)only[go_sem,reduceEqDiff,reduceLeDiff,reduceCtorEq,↓reduceIte,hH_,jh_,hr,hv,hN,hvc,e2,Nat.sub_zero,Nat.zero_add]
   refine⟨by omega,by omega,by omega,?_⟩
   refine bw_ _ _ b3_ ?_
   simp(disch:=first|omega|simp only[lzz0_];first|done|omega)only[go_sem,↓reduceIte]
   exact hk
  ·have him':((i:Int)=(m:Int))=False:=eq_false (by omega)
   simp(disch:=first|omega|simp only[lzz0_];first|done|omega)only[go_sem,reduceEqDiff,reduceCtorEq,↓reduceIte,hH_,jh_,hr,hv,hN,him',Nat.sub_zero,Nat.zero_add]
   refine⟨by decide,fun cap hcap=>?_⟩
   have hcf:((cap:Int)<(m:Int)+((1:Nat):Int))=False:=eq_false (by omega)
   have hm1:m+1≤N:=hm
   have htm:((m:Int)+((1:Nat):Int)).toNat=m+1:=by omega
   have hti:((i:Int)+((1:Nat):Int)).toNat=i+1:=by omega
   simp(disch:=first|omega|simp only[lzz0_];first|done|omega)only[am_,aq_,go_sem,reduceEqDiff,reduceLeDiff,reduceCtorEq,↓reduceIte,hcf,htm,hti,hr,hv,hN,hm1,Nat.sub_zero,Nat.zero_add,la_,length_take,length_drop,lc_,ln_,f9_,if_pos]
   have hroom:=ie_ (lo:=0) (v:=v) hN (i:=i) (m:=m) (by omega) (by omega)
   simp only[Nat.zero_add]at hroom
   have hmidL:(List.take (m+1-(i+1)) (List.drop i (List.take (m+1) es)))=(es.take m).drop i:=hO_ (by omega)
   repeat(refine And.intro (by first|assumption|omega|decide|(intro e he;rw[hmidL]at he;exact hc e he)|(intro e he;have:=mem_of_mem_take he;simp only[mem_singleton]at this;subst this;exact hvc)) ?_)
   refine bw_ _ _ b3_ ?_
   simp(disch:=first|omega|simp only[lzz0_];first|done|omega)only[go_sem,↓reduceIte,hroom,set_set]
   exact hk
 ·by_cases him:i=m
  ·subst him
   have e1:(es.take (lo+i)).drop (lo+i)=[]:=drop_eq_nil_of_le (by rw[length_take];omega)
   rw[e1,nil_append]at hk
   have e2:lo+i+1≤N:=hm
   simp(disch:=first|omega|simp only[lzz0_];first|done|omega)only[go_sem,reduceEqDiff,reduceLeDiff,reduceCtorEq,↓reduceIte,hH_,jh_,hr,hv,hN,hvc,e2,hlm,hlo,not_false_eq_true]
   refine⟨by omega,by omega,by decide,by omega,by omega,?_⟩
   refine bw_ _ _ b3_ ?_
   simp(disch:=first|omega|simp only[lzz0_];first|done|omega)only[go_sem,↓reduceIte]
   exact hk
  ·have him':((i:Int)=(m:Int))=False:=eq_false (by omega)
   simp(disch:=first|omega|simp only[lzz0_];first|done|omega)only[go_sem,reduceEqDiff,reduceCtorEq,↓reduceIte,hH_,jh_,hr,hv,hN,him',hlm]
   refine⟨by decide,fun cap hcap=>?_⟩
   have hcf:((cap:Int)<(m:Int)+((1:Nat):Int))=False:=eq_false (by omega)
   have hm1:lo+(m+1)≤N:=by omega
   have htm:((m:Int)+((1:Nat):Int)).toNat=m+1:=by omega
   have hti:((i:Int)+((1:Nat):Int)).toNat=i+1:=by omega
   have hlm2:lo+(m+1)-lo=m+1:=by omega
   simp(disch:=first|omega|simp only[lzz0_];first|done|omega)only[am_,aq_,go_sem,reduceEqDiff,reduceLeDiff,reduceCtorEq,↓reduceIte,hcf,htm,hti,hr,hv,hN,hm1,hlm2,la_,length_take,length_drop,lc_,ln_,f9_,if_pos]
   have hroom:=ie_ (lo:=lo) (v:=v) hN (i:=i) (m:=m) (by omega) (by omega)
   have hmidL:List.take (lo+(m+1)-(lo+(i+1))) (List.drop (lo+i) (List.take (lo+(m+1)) es))=(es.take (lo+m)).drop (lo+i):=hO_ (i:=lo+i) (m:=lo+m) (by omega)
   repeat(refine And.intro (by first|assumption|omega|decide|(intro e he;rw[hmidL]at he;exact hc e he)|(intro e he;have:=mem_of_mem_take he;simp only[mem_singleton]at this;subst this;exact hvc)) ?_)
   refine bw_ _ _ b3_ ?_
   simp(disch:=first|omega|simp only[lzz0_];first|done|omega)only[go_sem,↓reduceIte,hroom,set_set]
   exact hk
set_option maxHeartbeats 1000000 in
theorem eX_{l N lo m lv i:Nat}{H:List Row}{es:List (List AV)}{v:List AV}(hr:H[l]?=some ⟨.ty 2,1,es⟩)(hN:es.length=N)(hm:lo+m<N)(hi:i≤m)(hm2:lo+m≤1073741824)(hc:∀e∈(es.take (lo+m)).drop (lo+i),e.all AV.cell=true)(hv:H[lv]?=some ⟨.ty 2,1,[v]⟩)(hvc:v.all AV.cell=true)(hlv:lv≠l)
 {K:AV→List Row→Prop} (hk:K (.sub l N lo (lo+m+1)) (H.set l ⟨.ty 2,1,es.take (lo+i)++v::((es.take (lo+m)).drop (lo+i)++es.drop (lo+m+1))⟩)):callSem Tryz.prog 134 [.sub l N lo (lo+m),.val (.int .i64 i),.own lv 1] H K:=by
 refine aJ_ mixed Tryz.func134 un_ (bi_ rfl ?_)
 have hll:=(List.getElem?_eq_some_iff.1 hr).1
 have hvl:=(List.getElem?_eq_some_iff.1 hv).1
 have hlm:lo+m-lo=m:=by omega
 by_cases hlo:lo=0
 ·subst hlo
  simp only[Nat.zero_add]at *
  by_cases him:i=m
  ·subst him
   have e1:(es.take i).drop i=[]:=drop_eq_nil_of_le (by rw[length_take];omega)
   rw[e1,nil_append]at hk
   have e2:i+1≤N:=hm
   simp(disch:=first|omega|simp only[lzz0_];first|done|omega)only[go_sem,reduceEqDiff,reduceLeDiff,reduceCtorEq,↓reduceIte,hB_,jJ_,hr,hv,hN,hvc,e2,Nat.sub_zero,Nat.zero_add]
   refine⟨by omega,by omega,by omega,?_⟩
   refine bw_ _ _ b3_ ?_
   simp(disch:=first|omega|simp only[lzz0_];first|done|omega)only[go_sem,↓reduceIte]
   exact hk
  ·have him':((i:Int)=(m:Int))=False:=eq_false (by omega)
   simp(disch:=first|omega|simp only[lzz0_];first|done|omega)only[go_sem,reduceEqDiff,reduceCtorEq,↓reduceIte,hB_,jJ_,hr,hv,hN,him',Nat.sub_zero,Nat.zero_add]
   refine⟨by decide,fun cap hcap=>?_⟩
   have hcf:((cap:Int)<(m:Int)+((1:Nat):Int))=False:=eq_false (by omega)
   have hm1:m+1≤N:=hm
   have htm:((m:Int)+((1:Nat):Int)).toNat=m+1:=by omega
   have hti:((i:Int)+((1:Nat):Int)).toNat=i+1:=by omega
   simp(disch:=first|omega|simp only[lzz0_];first|done|omega)only[am_,aq_,go_sem,reduceEqDiff,reduceLeDiff,reduceCtorEq,↓reduceIte,hcf,htm,hti,hr,hv,hN,hm1,Nat.sub_zero,Nat.zero_add,la_,length_take,length_drop,lc_,ln_,f9_,if_pos]
   have hroom:=ie_ (lo:=0) (v:=v) hN (i:=i) (m:=m) (by omega) (by omega)
   simp only[Nat.zero_add]at hroom
   have hmidL:(List.take (m+1-(i+1)) (List.drop i (List.take (m+1) es)))=(es.take m).drop i:=hO_ (by omega)
   repeat(refine And.intro (by first|assumption|omega|decide|(intro e he;rw[hmidL]at he;exact hc e he)|(intro e he;have:=mem_of_mem_take he;simp only[mem_singleton]at this;subst this;exact hvc)) ?_)
   refine bw_ _ _ b3_ ?_
   simp(disch:=first|omega|simp only[lzz0_];first|done|omega)only[go_sem,↓reduceIte,hroom,set_set]
   exact hk
 ·by_cases him:i=m
  ·subst him
   have e1:(es.take (lo+i)).drop (lo+i)=[]:=drop_eq_nil_of_le (by rw[length_take];omega)
   rw[e1,nil_append]at hk
   have e2:lo+i+1≤N:=hm
   simp(disch:=first|omega|simp only[lzz0_];first|done|omega)only[go_sem,reduceEqDiff,reduceLeDiff,reduceCtorEq,↓reduceIte,hB_,jJ_,hr,hv,hN,hvc,e2,hlm,hlo,not_false_eq_true]
   refine⟨by omega,by omega,by decide,by omega,by omega,?_⟩
   refine bw_ _ _ b3_ ?_
   simp(disch:=first|omega|simp only[lzz0_];first|done|omega)only[go_sem,↓reduceIte]
   exact hk
  ·have him':((i:Int)=(m:Int))=False:=eq_false (by omega)
   simp(disch:=first|omega|simp only[lzz0_];first|done|omega)only[go_sem,reduceEqDiff,reduceCtorEq,↓reduceIte,hB_,jJ_,hr,hv,hN,him',hlm]
   refine⟨by decide,fun cap hcap=>?_⟩
   have hcf:((cap:Int)<(m:Int)+((1:Nat):Int))=False:=eq_false (by omega)
   have hm1:lo+(m+1)≤N:=by omega
   have htm:((m:Int)+((1:Nat):Int)).toNat=m+1:=by omega
   have hti:((i:Int)+((1:Nat):Int)).toNat=i+1:=by omega
   have hlm2:lo+(m+1)-lo=m+1:=by omega
   simp(disch:=first|omega|simp only[lzz0_];first|done|omega)only[am_,aq_,go_sem,reduceEqDiff,reduceLeDiff,reduceCtorEq,↓reduceIte,hcf,htm,hti,hr,hv,hN,hm1,hlm2,la_,length_take,length_drop,lc_,ln_,f9_,if_pos]
   have hroom:=ie_ (lo:=lo) (v:=v) hN (i:=i) (m:=m) (by omega) (by omega)
   have hmidL:List.take (lo+(m+1)-(lo+(i+1))) (List.drop (lo+i) (List.take (lo+(m+1)) es))=(es.take (lo+m)).drop (lo+i):=hO_ (i:=lo+i) (m:=lo+m) (by omega)
   repeat(refine And.intro (by first|assumption|omega|decide|(intro e he;rw[hmidL]at he;exact hc e he)|(intro e he;have:=mem_of_mem_take he;simp only[mem_singleton]at this;subst this;exact hvc)) ?_)
   refine bw_ _ _ b3_ ?_
   simp(disch:=first|omega|simp only[lzz0_];first|done|omega)only[go_sem,↓reduceIte,hroom,set_set]
   exact hk
theorem iv_{α:Type}{P Z T:List α}{v:α}{i cap M:Nat}(hP:P.length=i)(hi:i<cap)(hZ:Z.length=cap+1-i)(hT:T.length=cap-i)(hM:M=cap-i) :
 List.take (i+1) (List.take i (P++Z)++(List.take (cap+1-i) [v]++List.drop (i+min 1 (cap+1-i)) (P++Z))) ++
  (List.take (cap+1-(i+1)) T++List.drop (i+1+min M (cap+1-(i+1))) (List.take i (P++Z)++(List.take (cap+1-i) [v]++List.drop (i+min 1 (cap+1-i)) (P++Z))))=P++v::T:=by
 have e1:i+1+min M (cap+1-(i+1))=cap+1:=by omega
 have e2:i+min 1 (cap+1-i)=i+1:=by omega
 have e3:List.take (cap+1-i) [v]=[v]:=take_of_length_le (by simp;omega)
 have e5:List.take (cap+1-(i+1)) T=T:=take_of_length_le (by omega)
 have e6:List.take i (P++Z)=P:=take_left' hP
 have e7:∀W:List α,List.take (i+1) (P++([v]++W))=P++[v]:=fun W=>by
  rw[←append_assoc]
  exact take_left' (by rw[la_,hP];rfl)
 have e8:List.drop (cap+1) (P++([v]++List.drop (i+1) (P++Z)))=[]:=drop_eq_nil_of_le (by simp only[la_,length_drop,lc_,ln_,hZ,hP];omega)
 rw[e1,e2,e3,e5,e6,e7,e8,append_nil]
 simp
set_option maxHeartbeats 1000000 in
theorem hG_{l N lo lv i m:Nat}{H:List Row}{es:List (List AV)}{v:List AV}(hr:H[l]?=some ⟨.full 9,1,es⟩)(hN:es.length=N)(hm:lo+m=N)(hi:i≤m)(hm2:N≤1073741824)(hc:∀e∈es.drop (lo+i),e.all AV.cell=true)(hv:H[lv]?=some ⟨.ty 9,1,[v]⟩)(hvc:v.all AV.cell=true)(hlv:lv≠l)
 {K:AV→List Row→Prop} (hk:K (.own H.length (m+1)) (H++[⟨.ty 9,1,(es.drop lo).take i++v::es.drop (lo+i)⟩])):callSem Tryz.prog 133 [.sub l N lo N,.val (.int .i64 i),.own lv 1] H K:=by
 refine aJ_ mixed Tryz.func133 ub_ (bi_ rfl ?_)
 have hll:=(List.getElem?_eq_some_iff.1 hr).1
 have hvl:=(List.getElem?_eq_some_iff.1 hv).1
 have hlm:N-lo=m:=by omega
 by_cases him:i=m
 ·subst him
  have e1:(es.drop lo).take i=es.drop lo:=take_of_length_le (by rw[length_drop];omega)
  have e2:es.drop (lo+i)=[]:=drop_eq_nil_of_le (by omega)
  have e3:es.take N=es:=take_of_length_le (by omega)
  rw[e1,e2]at hk
  by_cases hlo:lo=0
  ·subst hlo
   simp only[Nat.sub_zero,Nat.zero_add]at hlm hm
   subst hlm
   rw[drop_zero]at hk
   simp(disch:=first|omega|simp only[lzz0_];first|done|omega)only[go_sem,reduceEqDiff,reduceLeDiff,reduceCtorEq,↓reduceIte,hH_,jh_,hr,hv,hN,hvc,Nat.sub_zero,Nat.zero_add,e3]
   refine⟨by omega,by omega,by omega,?_⟩
   refine bw_ _ _ b3_ ?_
   simp(disch:=first|omega|simp only[lzz0_];first|done|omega)only[go_sem,↓reduceIte]
   exact hk
  ·simp(disch:=first|omega|simp only[lzz0_];first|done|omega)only[go_sem,reduceEqDiff,reduceLeDiff,reduceCtorEq,↓reduceIte,hH_,jh_,hr,hv,hN,hvc,hlm,hlo,not_false_eq_true,e3]
   refine⟨by omega,by decide,by omega,by omega,by omega,?_⟩
   refine bw_ _ _ b3_ ?_
   simp(disch:=first|omega|simp only[lzz0_];first|done|omega)only[go_sem,↓reduceIte]
   exact hk
 ·have him':((i:Int)=(m:Int))=False:=eq_false (by omega)
  by_cases hlo:lo=0
  ·subst hlo
   simp only[Nat.sub_zero,Nat.zero_add]at hlm hm
   subst hlm
   rw[drop_zero]at hk
   simp(disch:=first|omega|simp only[lzz0_];first|done|omega)only[go_sem,reduceEqDiff,reduceCtorEq,↓reduceIte,hH_,jh_,hr,hv,hN,him',Nat.sub_zero,Nat.zero_add]
   refine⟨by decide,fun cap hc1 hc2=>?_⟩
   subst hc2
   have hcf:((cap:Int)<(cap:Int)+((1:Nat):Int))=True:=eq_true (by omega)
   have htm:((cap:Int)+((1:Nat):Int)-(i:Int)).toNat=cap+1-i:=by omega
   have hti:((i:Int)+((1:Nat):Int)).toNat=i+1:=by omega
   have hn:i+(cap+1-i)=cap+1:=by omega
   simp(disch:=first|omega|simp only[lzz0_];first|done|omega)only[ab_,as_,go_sem,reduceEqDiff,reduceLeDiff,reduceCtorEq,↓reduceIte,hcf,htm,hti,hn,hr,hv,hN,Nat.sub_zero,Nat.zero_add,la_,length_take,length_drop,lc_,ln_,length_replicate,f9_,if_pos]
   have hcc:∀(e:List AV),e∈List.take (cap+1-(i+1)) (List.drop i (List.take cap es))→e.all AV.cell=true:=fun e he=>hc e (by
    have h1:=mem_of_mem_take he
    rw[take_of_length_le (by omega)]at h1
    rw[Nat.zero_add]
    exact h1)
   repeat(refine And.intro (by first|assumption|omega|decide|(intro e he;have he:=mem_of_mem_take he;rw[take_of_length_le (by omega)]at he;first|exact hc e he|exact hc e (Nat.zero_add i▸he))|(intro e he;have:=mem_of_mem_take he;simp only[mem_singleton]at this;subst this;exact hvc)) ?_)
   refine bw_ _ _ b3_ ?_
   simp(disch:=first|omega|simp only[lzz0_];first|done|omega)only[go_sem,↓reduceIte]
   rw[iv_ (P:=List.take i es) (T:=List.drop i (List.take cap es)) (by rw[length_take];omega) (by omega) length_replicate (by rw[length_drop,length_take];omega) (by omega),take_of_length_le (l:=es) (i:=cap) (by omega)]
   simpa using hk
  ·simp(disch:=first|omega|simp only[lzz0_];first|done|omega)only[go_sem,reduceEqDiff,reduceCtorEq,↓reduceIte,hH_,jh_,hr,hv,hN,him',hlm]
   refine⟨by decide,fun cap hc1 hc2=>?_⟩
   subst hc2
   have hcf:((cap:Int)<(cap:Int)+((1:Nat):Int))=True:=eq_true (by omega)
   have htm:((cap:Int)+((1:Nat):Int)-(i:Int)).toNat=cap+1-i:=by omega
   have hti:((i:Int)+((1:Nat):Int)).toNat=i+1:=by omega
   have hn:i+(cap+1-i)=cap+1:=by omega
   have hli:lo+i-lo=i:=by omega
   simp(disch:=first|omega|simp only[lzz0_];first|done|omega)only[ab_,as_,go_sem,reduceEqDiff,reduceLeDiff,reduceCtorEq,↓reduceIte,hcf,htm,hti,hn,hli,hr,hv,hN,hlm,hlo,not_false_eq_true,la_,length_take,length_drop,lc_,ln_,length_replicate,f9_,if_pos]
   repeat(refine And.intro (by first|assumption|omega|decide|(intro e he;have he:=mem_of_mem_take he;rw[take_of_length_le (by omega)]at he;first|exact hc e he|exact hc e (Nat.zero_add i▸he))|(intro e he;have:=mem_of_mem_take he;simp only[mem_singleton]at this;subst this;exact hvc)) ?_)
   refine bw_ _ _ b3_ ?_
   simp(disch:=first|omega|simp only[lzz0_];first|done|omega)only[go_sem,↓reduceIte]
   rw[iv_ (P:=List.drop lo (List.take (lo+i) es)) (T:=List.drop (lo+i) (List.take (lo+cap) es)) (by rw[length_drop,length_take];omega) (by omega) length_replicate (by rw[length_drop,length_take];omega) (by omega),take_of_length_le (l:=es) (i:=lo+cap) (by omega),drop_take,Nat.add_sub_cancel_left]
   exact hk
set_option maxHeartbeats 1000000 in
theorem hU_{l N lo lv i m:Nat}{H:List Row}{es:List (List AV)}{v:List AV}(hr:H[l]?=some ⟨.full 2,1,es⟩)(hN:es.length=N)(hm:lo+m=N)(hi:i≤m)(hm2:N≤1073741824)(hc:∀e∈es.drop (lo+i),e.all AV.cell=true)(hv:H[lv]?=some ⟨.ty 2,1,[v]⟩)(hvc:v.all AV.cell=true)(hlv:lv≠l)
 {K:AV→List Row→Prop} (hk:K (.own H.length (m+1)) (H++[⟨.ty 2,1,(es.drop lo).take i++v::es.drop (lo+i)⟩])):callSem Tryz.prog 134 [.sub l N lo N,.val (.int .i64 i),.own lv 1] H K:=by
 refine aJ_ mixed Tryz.func134 un_ (bi_ rfl ?_)
 have hll:=(List.getElem?_eq_some_iff.1 hr).1
 have hvl:=(List.getElem?_eq_some_iff.1 hv).1
 have hlm:N-lo=m:=by omega
 by_cases him:i=m
 ·subst him
  have e1:(es.drop lo).take i=es.drop lo:=take_of_length_le (by rw[length_drop];omega)
  have e2:es.drop (lo+i)=[]:=drop_eq_nil_of_le (by omega)
  have e3:es.take N=es:=take_of_length_le (by omega)
  rw[e1,e2]at hk
  by_cases hlo:lo=0
  ·subst hlo
   simp only[Nat.sub_zero,Nat.zero_add]at hlm hm
   subst hlm
   rw[drop_zero]at hk
   simp(disch:=first|omega|simp only[lzz0_];first|done|omega)only[go_sem,reduceEqDiff,reduceLeDiff,reduceCtorEq,↓reduceIte,hB_,jJ_,hr,hv,hN,hvc,Nat.sub_zero,Nat.zero_add,e3]
   refine⟨by omega,by omega,by omega,?_⟩
   refine bw_ _ _ b3_ ?_
   simp(disch:=first|omega|simp only[lzz0_];first|done|omega)only[go_sem,↓reduceIte]
   exact hk
  ·simp(disch:=first|omega|simp only[lzz0_];first|done|omega)only[go_sem,reduceEqDiff,reduceLeDiff,reduceCtorEq,↓reduceIte,hB_,jJ_,hr,hv,hN,hvc,hlm,hlo,not_false_eq_true,e3]
   refine⟨by omega,by decide,by omega,by omega,by omega,?_⟩
   refine bw_ _ _ b3_ ?_
   simp(disch:=first|omega|simp only[lzz0_];first|done|omega)only[go_sem,↓reduceIte]
   exact hk
 ·have him':((i:Int)=(m:Int))=False:=eq_false (by omega)
  by_cases hlo:lo=0
  ·subst hlo
   simp only[Nat.sub_zero,Nat.zero_add]at hlm hm
   subst hlm
   rw[drop_zero]at hk
   simp(disch:=first|omega|simp only[lzz0_];first|done|omega)only[go_sem,reduceEqDiff,reduceCtorEq,↓reduceIte,hB_,jJ_,hr,hv,hN,him',Nat.sub_zero,Nat.zero_add]
   refine⟨by decide,fun cap hc1 hc2=>?_⟩
   subst hc2
   have hcf:((cap:Int)<(cap:Int)+((1:Nat):Int))=True:=eq_true (by omega)
   have htm:((cap:Int)+((1:Nat):Int)-(i:Int)).toNat=cap+1-i:=by omega
   have hti:((i:Int)+((1:Nat):Int)).toNat=i+1:=by omega
   have hn:i+(cap+1-i)=cap+1:=by omega
   simp(disch:=first|omega|simp only[lzz0_];first|done|omega)only[ab_,as_,go_sem,reduceEqDiff,reduceLeDiff,reduceCtorEq,↓reduceIte,hcf,htm,hti,hn,hr,hv,hN,Nat.sub_zero,Nat.zero_add,la_,length_take,length_drop,lc_,ln_,length_replicate,f9_,if_pos]
   have hcc:∀(e:List AV),e∈List.take (cap+1-(i+1)) (List.drop i (List.take cap es))→e.all AV.cell=true:=fun e he=>hc e (by
    have h1:=mem_of_mem_take he
    rw[take_of_length_le (by omega)]at h1
    rw[Nat.zero_add]
    exact h1)
   repeat(refine And.intro (by first|assumption|omega|decide|(intro e he;have he:=mem_of_mem_take he;rw[take_of_length_le (by omega)]at he;first|exact hc e he|exact hc e (Nat.zero_add i▸he))|(intro e he;have:=mem_of_mem_take he;simp only[mem_singleton]at this;subst this;exact hvc)) ?_)
   refine bw_ _ _ b3_ ?_
   simp(disch:=first|omega|simp only[lzz0_];first|done|omega)only[go_sem,↓reduceIte]
   rw[iv_ (P:=List.take i es) (T:=List.drop i (List.take cap es)) (by rw[length_take];omega) (by omega) length_replicate (by rw[length_drop,length_take];omega) (by omega),take_of_length_le (l:=es) (i:=cap) (by omega)]
   simpa using hk
  ·simp(disch:=first|omega|simp only[lzz0_];first|done|omega)only[go_sem,reduceEqDiff,reduceCtorEq,↓reduceIte,hB_,jJ_,hr,hv,hN,him',hlm]
   refine⟨by decide,fun cap hc1 hc2=>?_⟩
   subst hc2
   have hcf:((cap:Int)<(cap:Int)+((1:Nat):Int))=True:=eq_true (by omega)
   have htm:((cap:Int)+((1:Nat):Int)-(i:Int)).toNat=cap+1-i:=by omega
   have hti:((i:Int)+((1:Nat):Int)).toNat=i+1:=by omega
   have hn:i+(cap+1-i)=cap+1:=by omega
   have hli:lo+i-lo=i:=by omega
   simp(disch:=first|omega|simp only[lzz0_];first|done|omega)only[ab_,as_,go_sem,reduceEqDiff,reduceLeDiff,reduceCtorEq,↓reduceIte,hcf,htm,hti,hn,hli,hr,hv,hN,hlm,hlo,not_false_eq_true,la_,length_take,length_drop,lc_,ln_,length_replicate,f9_,if_pos]
   repeat(refine And.intro (by first|assumption|omega|decide|(intro e he;have he:=mem_of_mem_take he;rw[take_of_length_le (by omega)]at he;first|exact hc e he|exact hc e (Nat.zero_add i▸he))|(intro e he;have:=mem_of_mem_take he;simp only[mem_singleton]at this;subst this;exact hvc)) ?_)
   refine bw_ _ _ b3_ ?_
   simp(disch:=first|omega|simp only[lzz0_];first|done|omega)only[go_sem,↓reduceIte]
   rw[iv_ (P:=List.drop lo (List.take (lo+i) es)) (T:=List.drop (lo+i) (List.take (lo+cap) es)) (by rw[length_drop,length_take];omega) (by omega) length_replicate (by rw[length_drop,length_take];omega) (by omega),take_of_length_le (l:=es) (i:=lo+cap) (by omega),drop_take,Nat.add_sub_cancel_left]
   exact hk
theorem bv_{l lv i mx:Nat}{H:List Row}{a:AV}{xs:List ByteArray}{v:ByteArray}(hp:aR_ H 9 1 a l (xs.map ah_))(hi:i≤xs.length)(hN:∀r,H[l]?=some r→r.es.length≤mx)(hmx:mx≤1073741823)(hv:H[lv]?=some ⟨.ty 9,1,[ah_ v]⟩)(hlv:lv≠l){K:AV→List Row→Prop}
 (hk:∀a' H' l',(l'=l∨H.length≤l')→l'<H'.length→H.length≤H'.length→(∀j,j<H.length→j≠l→H'[j]?=H[j]?)→aR_ H' 9 1 a' l' ((xs.take i++v::xs.drop i).map ah_)→(∀r,H'[l']?=some r→r.es.length≤mx+1)→K a' H'):callSem Tryz.prog 133 [a,.val (.int .i64 i),.own lv 1] H K:=by
 have hll:=hp.lt
 obtain⟨pre,post,rfl,hrow⟩:=hp
 have hN':=hN _ hrow
 simp only[la_,length_map]at hN'
 have hX:∀e∈(xs.drop i).map ah_,e.all AV.cell=true:=fun e he=>dZ_ xs e (by rw[map_drop]at he;exact mem_of_mem_drop he)
 have hvc:(ah_ v).all AV.cell=true:=rfl
 have t1:∀q:List (List AV),List.take (pre.length+i) (pre++(xs.map ah_++q))=pre++(xs.take i).map ah_:=fun q=>by
  rw[take_length_add_append,take_append_of_le_length (by simpa using hi),map_take]
 have t2:∀q:List (List AV),List.drop (pre.length+i) (List.take (pre.length+xs.length) (pre++(xs.map ah_++q)))=(xs.drop i).map ah_:=fun q=>by
  rw[take_length_add_append,take_append_of_le_length (by simp),take_of_length_le (by simp),drop_length_add_append,map_drop]
 have t3:∀(x:List AV) (q:List (List AV)),List.drop (pre.length+xs.length+1) (pre++(xs.map ah_++x::q))=q:=fun x q=>by
  rw[Nat.add_assoc,drop_length_add_append,show xs.length+1=(xs.map ah_).length+1 by simp,drop_length_add_append];rfl
 have t4:∀q:List (List AV),pre++(xs.take i).map ah_++ah_ v::((xs.drop i).map ah_++q)=pre++((xs.take i++v::xs.drop i).map ah_++q):=fun q=>by simp
 have hlen:(xs.take i++v::xs.drop i).length=xs.length+1:=by simp only[la_,length_take,lc_,length_drop];omega
 have e0:(xs.map ah_).length=xs.length:=by simp
 have e1:((xs.take i++v::xs.drop i).map ah_).length=xs.length+1:=by rw[length_map,hlen]
 refine callSem.weaken ?_
 rw[e0]
 cases post with
 | cons q post =>
  refine eT_ (lo:=pre.length) (m:=xs.length) (lv:=lv) hrow (by simp) (by simp only[lc_];omega) hi (by omega) (fun e he=>hX e (by rwa [t2]at he)) hv hvc hlv ?_
  rw[t1,t2,t3,t4]
  refine⟨_,bs_ _,hk _ _ l (.inl rfl) (by simpa using hll) (by simp) (fun j _ hne=>am_ (Ne.symm hne)) ⟨pre,post,?_,aq_ hll⟩ (fun r hr=>?_)⟩
  ·rw[e1];congr 1<;>simp only[lc_]<;>omega
  ·rw[aq_ hll]at hr
   obtain rfl:=Option.some.inj hr
   simp only[la_,e1,lc_]at hN'⊢
   omega
 | nil =>
  rw[append_nil]at hrow
  have es1:pre.length+(xs.length+([]:List (List AV)).length)=pre.length+xs.length:=rfl
  rw[es1]
  refine ly_ hrow (by simp) (by decide) ?_ ?_
  ·have eq:pre++xs.map ah_++[List.replicate 1 AV.undef]=pre++(xs.map ah_++[List.replicate 1 AV.undef]):=append_assoc _ _ _
   rw[eq]
   refine eT_ (lo:=pre.length) (m:=xs.length) (lv:=lv) (aq_ hll) (by simp;omega) (by omega) hi (by omega) (fun e he=>hX e (by rwa [t2]at he)) (by rw[am_ (Ne.symm hlv)];exact hv) hvc hlv ?_
   rw[t1,t2,t3,t4,set_set]
   refine⟨_,bs_ _,hk _ _ l (.inl rfl) (by simpa using hll) (by simp) (fun j _ hne=>am_ (Ne.symm hne)) ⟨pre,[],?_,aq_ hll⟩ (fun r hr=>?_)⟩
   ·rw[e1];congr 1
   ·rw[aq_ hll]at hr
    obtain rfl:=Option.some.inj hr
    simp only[la_,e1,ln_]at hN'⊢
    omega
  ·refine hG_ (lo:=pre.length) (m:=xs.length) (N:=pre.length+xs.length) (lv:=lv) (aq_ hll) (by simp) rfl hi (by simp only[ln_]at hN';omega) (fun e he=>hX e ?_) (by rw[am_ (Ne.symm hlv)];exact hv) hvc hlv ?_
   ·rw[drop_length_add_append,←map_drop]at he;exact he
   ·refine⟨by rw[ab_ (by simpa using hll)];exact aq_ hll,?_⟩
    rw[ls_,drop_left,drop_length_add_append,←map_take,←map_drop]
    have hst:∀r1 r2 r3:Row,H[l]?=some r3→(H.set l r1++[r2]).set l r3=H++[r2]:=fun r1 r2 r3 q=>by
     rw[set_append_left _ _ (by simpa using hll),set_set,lH_ q]
    rw[hst _ _ _ hrow]
    have e5:(xs.take i).map ah_++ah_ v::(xs.drop i).map ah_=(xs.take i++v::xs.drop i).map ah_:=by simp
    rw[e5]
    refine⟨_,dO_ _ _,hk _ _ H.length (.inr (Nat.le_refl _)) (by simp) (by simp) (fun j hj _=>ab_ hj) ⟨[],[],?_,(by rw[append_nil,nil_append];exact as_ rfl)⟩ (fun r hr=>?_)⟩
    ·rw[e1];simp
    ·rw[as_ rfl]at hr
     obtain rfl:=Option.some.inj hr
     simp only[e1]at hN'⊢
     omega
theorem ep_{l lv i mx:Nat}{H:List Row}{a:AV}{xs:List Int}{v:Int}(hp:aR_ H 2 1 a l (xs.map aB_))(hi:i≤xs.length)(hN:∀r,H[l]?=some r→r.es.length≤mx)(hmx:mx≤1073741823)(hv:H[lv]?=some ⟨.ty 2,1,[aB_ v]⟩)(hlv:lv≠l){K:AV→List Row→Prop}
 (hk:∀a' H' l',(l'=l∨H.length≤l')→l'<H'.length→H.length≤H'.length→(∀j,j<H.length→j≠l→H'[j]?=H[j]?)→aR_ H' 2 1 a' l' ((xs.take i++v::xs.drop i).map aB_)→(∀r,H'[l']?=some r→r.es.length≤mx+1)→K a' H'):callSem Tryz.prog 134 [a,.val (.int .i64 i),.own lv 1] H K:=by
 have hll:=hp.lt
 obtain⟨pre,post,rfl,hrow⟩:=hp
 have hN':=hN _ hrow
 simp only[la_,length_map]at hN'
 have hX:∀e∈(xs.drop i).map aB_,e.all AV.cell=true:=fun e he=>dX_ xs e (by rw[map_drop]at he;exact mem_of_mem_drop he)
 have hvc:(aB_ v).all AV.cell=true:=rfl
 have t1:∀q:List (List AV),List.take (pre.length+i) (pre++(xs.map aB_++q))=pre++(xs.take i).map aB_:=fun q=>by
  rw[take_length_add_append,take_append_of_le_length (by simpa using hi),map_take]
 have t2:∀q:List (List AV),List.drop (pre.length+i) (List.take (pre.length+xs.length) (pre++(xs.map aB_++q)))=(xs.drop i).map aB_:=fun q=>by
  rw[take_length_add_append,take_append_of_le_length (by simp),take_of_length_le (by simp),drop_length_add_append,map_drop]
 have t3:∀(x:List AV) (q:List (List AV)),List.drop (pre.length+xs.length+1) (pre++(xs.map aB_++x::q))=q:=fun x q=>by
  rw[Nat.add_assoc,drop_length_add_append,show xs.length+1=(xs.map aB_).length+1 by simp,drop_length_add_append];rfl
 have t4:∀q:List (List AV),pre++(xs.take i).map aB_++aB_ v::((xs.drop i).map aB_++q)=pre++((xs.take i++v::xs.drop i).map aB_++q):=fun q=>by simp
 have hlen:(xs.take i++v::xs.drop i).length=xs.length+1:=by simp only[la_,length_take,lc_,length_drop];omega
 have e0:(xs.map aB_).length=xs.length:=by simp
 have e1:((xs.take i++v::xs.drop i).map aB_).length=xs.length+1:=by rw[length_map,hlen]
 refine callSem.weaken ?_
 rw[e0]
 cases post with
 | cons q post =>
  refine eX_ (lo:=pre.length) (m:=xs.length) (lv:=lv) hrow (by simp) (by simp only[lc_];omega) hi (by omega) (fun e he=>hX e (by rwa [t2]at he)) hv hvc hlv ?_
  rw[t1,t2,t3,t4]
  refine⟨_,bs_ _,hk _ _ l (.inl rfl) (by simpa using hll) (by simp) (fun j _ hne=>am_ (Ne.symm hne)) ⟨pre,post,?_,aq_ hll⟩ (fun r hr=>?_)⟩
  ·rw[e1];congr 1<;>simp only[lc_]<;>omega
  ·rw[aq_ hll]at hr
   obtain rfl:=Option.some.inj hr
   simp only[la_,e1,lc_]at hN'⊢
   omega
 | nil =>
  rw[append_nil]at hrow
  have es1:pre.length+(xs.length+([]:List (List AV)).length)=pre.length+xs.length:=rfl
  rw[es1]
  refine ly_ hrow (by simp) (by decide) ?_ ?_
  ·have eq:pre++xs.map aB_++[List.replicate 1 AV.undef]=pre++(xs.map aB_++[List.replicate 1 AV.undef]):=append_assoc _ _ _
   rw[eq]
   refine eX_ (lo:=pre.length) (m:=xs.length) (lv:=lv) (aq_ hll) (by simp;omega) (by omega) hi (by omega) (fun e he=>hX e (by rwa [t2]at he)) (by rw[am_ (Ne.symm hlv)];exact hv) hvc hlv ?_
   rw[t1,t2,t3,t4,set_set]
   refine⟨_,bs_ _,hk _ _ l (.inl rfl) (by simpa using hll) (by simp) (fun j _ hne=>am_ (Ne.symm hne)) ⟨pre,[],?_,aq_ hll⟩ (fun r hr=>?_)⟩
   ·rw[e1];congr 1
   ·rw[aq_ hll]at hr
    obtain rfl:=Option.some.inj hr
    simp only[la_,e1,ln_]at hN'⊢
    omega
  ·refine hU_ (lo:=pre.length) (m:=xs.length) (N:=pre.length+xs.length) (lv:=lv) (aq_ hll) (by simp) rfl hi (by simp only[ln_]at hN';omega) (fun e he=>hX e ?_) (by rw[am_ (Ne.symm hlv)];exact hv) hvc hlv ?_
   ·rw[drop_length_add_append,←map_drop]at he;exact he
   ·refine⟨by rw[ab_ (by simpa using hll)];exact aq_ hll,?_⟩
    rw[ls_,drop_left,drop_length_add_append,←map_take,←map_drop]
    have hst:∀r1 r2 r3:Row,H[l]?=some r3→(H.set l r1++[r2]).set l r3=H++[r2]:=fun r1 r2 r3 q=>by
     rw[set_append_left _ _ (by simpa using hll),set_set,lH_ q]
    rw[hst _ _ _ hrow]
    have e5:(xs.take i).map aB_++aB_ v::(xs.drop i).map aB_=(xs.take i++v::xs.drop i).map aB_:=by simp
    rw[e5]
    refine⟨_,dO_ _ _,hk _ _ H.length (.inr (Nat.le_refl _)) (by simp) (by simp) (fun j hj _=>ab_ hj) ⟨[],[],?_,(by rw[append_nil,nil_append];exact as_ rfl)⟩ (fun r hr=>?_)⟩
    ·rw[e1];simp
    ·rw[as_ rfl]at hr
     obtain rfl:=Option.some.inj hr
     simp only[e1]at hN'⊢
     omega
def PB.all(T M:Nat)(B:List PB):List Nat:=T::M::B.flatMap PB.foot
theorem b9_(T M:Nat)(B1 B2:List PB)(x:PB):(PB.all T M (B1++x::B2)).Perm (x.foot++PB.all T M (B1++B2)):=by
 have e1:PB.all T M (B1++x::B2)=(T::M::B1.flatMap PB.foot)++(x.foot++B2.flatMap PB.foot):=by simp[PB.all]
 have e2:PB.all T M (B1++B2)=(T::M::B1.flatMap PB.foot)++B2.flatMap PB.foot:=by simp[PB.all]
 rw[e1,e2]
 exact perm_append_comm_assoc _ _ _
section
variable {H H' : List Row} {T M : Nat} {root : Int} {B B1 B2 : List PB} {ents : List (Int × Nat × AV)} {ck lo : Nat}
theorem Pg.upd{x x':PB}(g:Pg H T M root (B1++x::B2) ents ck lo)(hid:x'.id=x.id)(hb:x'.b=x.b)(hk:∀l,l<H.length→l∉x.foot→H'[l]?=H[l]?)(hl:H.length≤H'.length)(hf:∀l∈x'.foot,l∈x.foot∨(H.length≤l∧l<H'.length))(h1:x'.foot.Nodup)
 (hp:gt_ H' x'.b x'.pg x'.k x'.v x'.d):Pg H' T M root (B1++x'::B2) ents ck lo:=by
 have hone:(PB.all T M (B1++x::B2)).Nodup:=g.one
 rw[(b9_ T M B1 B2 x).nodup_iff,nodup_append]at hone
 obtain⟨n1,n2,n3⟩:=hone
 have hmem:∀l,l∈PB.all T M (B1++B2)→l∈T::M::(B1++x::B2).flatMap PB.foot:=fun l hl=>(b9_ T M B1 B2 x).mem_iff.2 (mem_append_right _ hl)
 have hkeep:∀l∈PB.all T M (B1++B2),H'[l]?=H[l]?:=fun l hl=>hk l (g.lows l (hmem l hl)).2 (fun q=>n3 l q l hl rfl)
 have hTk:=hkeep T (by simp[PB.all])
 have hMk:=hkeep M (by simp[PB.all])
 have hothers:∀y∈B1++B2,∀l∈y.foot,l∈PB.all T M (B1++B2):=fun y hy l hl=>Pg.mem_foot hy hl
 refine⟨by rw[hTk];exact g.box,by rw[hMk];exact g.map,⟨?_,g.ents.born,g.ents.old⟩,fun y hy=>?_,?_,?_,fun l hl2=>?_⟩
 ·rw[g.ents.same]
  simp[hid,hb]
 ·have hcase:y=x'∨y∈B1++B2:=by
   rcases mem_append.1 hy with q|q
   ·exact .inr (mem_append_left _ q)
   ·rcases mem_cons.1 q with q|q
    ·exact .inl q
    ·exact .inr (mem_append_right _ q)
  rcases hcase with rfl|q
  ·exact hp
  ·have hy2:y∈B1++x::B2:=by
    rcases mem_append.1 q with z|z
    ·exact mem_append_left _ z
    ·exact mem_append_right _ (mem_cons_of_mem _ z)
   have hh:=fun l hl=>hkeep l (hothers y q l hl)
   exact(g.pgs y hy2).keep (hh _ (by simp[PB.foot])) (hh _ (by simp[PB.foot])) (hh _ (by simp[PB.foot])) (hh _ (by simp[PB.foot]))
 ·show(PB.all T M (B1++x'::B2)).Nodup
  rw[(b9_ T M B1 B2 x').nodup_iff,nodup_append]
  refine⟨h1,n2,fun a ha b hb2 e=>?_⟩
  subst e
  rcases hf a ha with q|q
  ·exact n3 a q a hb2 rfl
  ·have:=(g.lows a (hmem a hb2)).2
   omega
 ·have:=g.ids
  simpa[hid]using this
 ·have hl3:=(b9_ T M B1 B2 x').mem_iff.1 (show l∈PB.all T M (B1++x'::B2)from hl2)
  rcases mem_append.1 hl3 with q|q
  ·rcases hf l q with z|z
   ·have:=g.lows l ((b9_ T M B1 B2 x).mem_iff.2 (mem_append_left _ z))
    omega
   ·have:=g.lows T (by simp)
    omega
  ·have:=g.lows l (hmem l q)
   omega
theorem Pg.reroot(g:Pg H T M root B ents ck lo){root':Int}:Pg (H.set T ⟨.ty 93,2,[[.val (.int .i64 root'),.mp M]]⟩) T M root' B ents ck lo:=by
 have hT:=(g.lows T (by simp)).2
 have hone:=g.one
 have hne:∀l∈M::B.flatMap PB.foot,(H.set T ⟨.ty 93,2,[[.val (.int .i64 root'),.mp M]]⟩)[l]?=H[l]?:=fun l hl=>getElem?_set_ne (fun e:T=l=>(nodup_cons.1 hone).1 (by rw[e];exact hl))
 refine⟨getElem?_set_self hT,by rw[hne M (by simp)];exact g.map,g.ents,fun x hx=>?_,g.one,g.ids,fun l hl=>by simpa using g.lows l hl⟩
 have hh:∀l∈x.foot,(H.set T ⟨.ty 93,2,[[.val (.int .i64 root'),.mp M]]⟩)[l]?=H[l]?:=fun l hl=>hne l (mem_cons_of_mem _ (mem_flatMap.2 ⟨x,hx,hl⟩))
 exact(g.pgs x hx).keep (hh _ (by simp[PB.foot])) (hh _ (by simp[PB.foot])) (hh _ (by simp[PB.foot])) (hh _ (by simp[PB.foot]))
end
theorem xi_(a:List aa_)(s:aa_)(id:Int):ag_ (a++[s]) id=match ag_ a id with|some p=>some p|none=>if s.Id=id then some s.Page else none:=by
 induction a with
 | nil=>rw[nil_append,bE_,jD_]
 | cons e a ih =>
  rw[cons_append,bE_,bE_,ih]
  by_cases h:e.Id=id
  ·rw[if_pos h,if_pos h]
  ·rw[if_neg h,if_neg h]
theorem v3_{B1 B2:List PB}{x x':PB}(hid:x'.id=x.id)(hn:((B1++x::B2).map PB.id).Nodup)(id:Int):ag_ ((B1++x'::B2).map PB.slot) id=if x.id=id then some x'.pg else ag_ ((B1++x::B2).map PB.slot) id:=by
 induction B1 with
 | nil =>
  simp only[nil_append,map_cons,bE_]
  have e1:(PB.slot x').Id=x.id:=hid
  have e2:(PB.slot x).Id=x.id:=rfl
  rw[e1,e2]
  split<;>rfl
 | cons y B1 ih =>
  simp only[cons_append,map_cons,bE_]at hn⊢
  obtain⟨h1,h2⟩:=nodup_cons.1 hn
  rw[ih h2]
  have hne:¬ (PB.slot y).Id=x.id:=fun e=>h1 (by rw[show y.id=x.id from e];simp)
  by_cases h:(PB.slot y).Id=id
  ·rw[if_pos h,if_pos h,if_neg (fun e=>hne (h.trans e.symm))]
  ·rw[if_neg h,if_neg h]
structure PgS(H:List Row)(T M:Nat)(root:Int)(B:List PB)(lo mx:Nat)(sl:List aa_):Prop where
 pg:∃ents ck,Pg H T M root B ents ck lo
 same:∀id,ag_ (B.map PB.slot) id=ag_ sl id
 lim:Lim H (PB.all T M B) mx
structure cD_(T M:Nat)(H:List Row)(B:List PB)(H':List Row)(B':List PB):Prop where
 len:H.length≤H'.length
 kept:∀l,l<H.length→l∉PB.all T M B→H'[l]?=H[l]?
 foot:∀l∈PB.all T M B',l∈PB.all T M B∨H.length≤l
 keeps:∀y∈B,∃y'∈B',y'.id=y.id∧y'.b=y.b
theorem cD_.refl(T M:Nat)(H:List Row)(B:List PB):cD_ T M H B H B:=⟨Nat.le_refl _,fun _ _ _=>rfl,fun _ h=>.inl h,fun y hy=>⟨y,hy,rfl,rfl⟩⟩
theorem cD_.trans{T M:Nat}{H H1 H2:List Row}{B B1 B2:List PB}(a:cD_ T M H B H1 B1)(b:cD_ T M H1 B1 H2 B2):cD_ T M H B H2 B2:=by
 have l1:=a.len
 have l2:=b.len
 refine⟨by omega,fun l hl hn=>?_,fun l hl=>?_,fun y hy=>?_⟩
 ·rw[b.kept l (by omega) (fun q=>?_),a.kept l hl hn]
  rcases a.foot l q with z|z
  ·exact hn z
  ·omega
 ·rcases b.foot l hl with z|z
  ·exact a.foot l z
  ·exact .inr (by omega)
 ·obtain⟨y1,h1,h2,h3⟩:=a.keeps y hy
  obtain⟨y2,h4,h5,h6⟩:=b.keeps y1 h1
  exact⟨y2,h4,h5.trans h2,h6.trans h3⟩
theorem cD_.more{T M:Nat}{H H1:List Row}{B:List PB}(m:bb_ H H1):cD_ T M H B H1 B:=⟨m.len,fun l hl _=>m.kept l hl,fun _ h=>.inl h,fun y hy=>⟨y,hy,rfl,rfl⟩⟩
theorem PgS.more{H H1:List Row}{T M:Nat}{root:Int}{B:List PB}{lo mx:Nat}{sl:List aa_}(g:PgS H T M root B lo mx sl)(m:bb_ H H1):PgS H1 T M root B lo mx sl:=by
 obtain⟨⟨ents,ck,g0⟩,g1,g2⟩:=g
 exact⟨⟨ents,ck,g0.more m⟩,g1,fun l hl r hr=>g2 l hl r (by rw[←m.kept l (g0.lows l hl).2];exact hr)⟩
theorem PgS.find{H:List Row}{T M:Nat}{root:Int}{B:List PB}{lo mx:Nat}{sl:List aa_}(g:PgS H T M root B lo mx sl){id:Int}{p:ai_}(hp:ag_ sl id=some p):∃B1 x B2,B=B1++x::B2∧x.id=id∧x.pg=p:=by
 rw[←g.same,g8_]at hp
 cases h:B.find? (fun x=>x.id==id)with
 | none=>rw[h]at hp;cases hp
 | some x =>
  rw[h]at hp
  have h1:=mem_of_find?_eq_some h
  have h2:=find?_some h
  obtain⟨B1,B2,e⟩:=append_of_mem h1
  exact⟨B1,x,B2,e,by simpa using h2,Option.some.inj hp⟩
theorem PgS.box{H:List Row}{T M:Nat}{root:Int}{B:List PB}{lo mx:Nat}{sl:List aa_}(g:PgS H T M root B lo mx sl){x:PB}(hx:x∈B):ag_ sl x.id=some x.pg:=by
 obtain⟨ents,ck,g0⟩:=g.pg
 rw[←g.same,g8_]
 have hn:=g0.ids
 have:B.find? (fun y=>y.id==x.id)=some x:=by
  clear g g0
  induction B with
  | nil=>cases hx
  | cons y B ih =>
   rw[find?_cons]
   rw[map_cons,nodup_cons]at hn
   rcases mem_cons.1 hx with q|q
   ·rw[q];simp
   ·have:(y.id==x.id)=false:=by
     rw[beq_eq_false_iff_ne]
     intro e
     exact hn.1 (e▸mem_map_of_mem q)
    rw[this]
    exact ih q hn.2
 rw[this];rfl
theorem PgS.upd{H H':List Row}{T M:Nat}{root:Int}{B1 B2:List PB}{lo mx mx':Nat}{sl:List aa_}{x x':PB}(g:PgS H T M root (B1++x::B2) lo mx sl)(hrise:dD_ sl)(hid:x'.id=x.id)(hb:x'.b=x.b)(hk:∀l,l<H.length→l∉x.foot→H'[l]?=H[l]?)(hl:H.length≤H'.length)(hf:∀l∈x'.foot,l∈x.foot∨(H.length≤l∧l<H'.length))(h1:x'.foot.Nodup)
 (hp:gt_ H' x'.b x'.pg x'.k x'.v x'.d) (hmx:mx≤mx') (hlim:Lim H' x'.foot mx'):PgS H' T M root (B1++x'::B2) lo mx' (av_ ⟨x.id,x'.pg⟩ false sl)∧cD_ T M H (B1++x::B2) H' (B1++x'::B2):=by
 obtain⟨⟨ents,ck,g0⟩,g1,g2⟩:=g
 have gu:=g0.upd (H':=H') (x':=x') hid hb hk hl hf h1 hp
 have hone:(PB.all T M (B1++x::B2)).Nodup:=g0.one
 rw[(b9_ T M B1 B2 x).nodup_iff,nodup_append]at hone
 obtain⟨n1,n2,n3⟩:=hone
 have hmem:∀l,l∈PB.all T M (B1++B2)→l∈PB.all T M (B1++x::B2):=fun l hl=>(b9_ T M B1 B2 x).mem_iff.2 (mem_append_right _ hl)
 refine⟨⟨⟨ents,ck,gu⟩,fun id=>?_,fun l hl2 r hr=>?_⟩,hl,fun l hl2 hn=>hk l hl2 (fun q=>hn ((b9_ T M B1 B2 x).mem_iff.2 (mem_append_left _ q))),fun l hl2=>?_,fun y hy=>?_⟩
 ·rw[v3_ hid g0.ids,by_ hrise,g1]
 ·rcases mem_append.1 ((b9_ T M B1 B2 x').mem_iff.1 hl2)with q|q
  ·exact hlim l q r hr
  ·rw[hk l (g0.lows l (hmem l q)).2 (fun z=>n3 l z l q rfl)]at hr
   exact Nat.le_trans (g2 l (hmem l q) r hr) hmx
 ·rcases mem_append.1 ((b9_ T M B1 B2 x').mem_iff.1 hl2)with q|q
  ·rcases hf l q with z|z
   ·exact .inl ((b9_ T M B1 B2 x).mem_iff.2 (mem_append_left _ z))
   ·exact .inr z.1
  ·exact .inl (hmem l q)
 ·rcases mem_append.1 hy with q|q
  ·exact⟨y,mem_append_left _ q,rfl,rfl⟩
  ·rcases mem_cons.1 q with rfl|q
   ·exact⟨x',by simp,hid,hb⟩
   ·exact⟨y,mem_append_right _ (mem_cons_of_mem _ q),rfl,rfl⟩
theorem Pg.add2{H H':List Row}{T M:Nat}{root:Int}{B:List PB}{ents:List (Int×Nat×AV)}{ck lo:Nat}(g:Pg H T M root B ents ck lo){x:PB}(hk:∀l,l<H.length→l≠M→H'[l]?=H[l]?)(hl:H.length≤H'.length)(hn:∀l∈x.foot,lo≤l∧l<H'.length∧l∉PB.all T M B)(h1:x.foot.Nodup)(hid:x.id∉B.map PB.id)
 (hp:gt_ H' x.b x.pg x.k x.v x.d) (hm:H'[M]?=some ⟨.pmap (ents++[(x.id,ck,.ptr x.b 1 0 0)]) (ck+1),0,[]⟩):Pg H' T M root (B++[x]) (ents++[(x.id,ck,.ptr x.b 1 0 0)]) (ck+1) lo:=by
 have hone:=g.one
 have hTM:T≠M:=by
  intro e
  have:=(nodup_cons.1 hone).1
  exact this (by simp[e])
 have hMB:∀y∈B,∀l∈y.foot,l≠M:=by
  intro y hy l hl2 e
  have:=(nodup_cons.1 (nodup_cons.1 hone).2).1
  exact this (by rw[←e];exact mem_flatMap.2 ⟨y,hy,hl2⟩)
 have hall:T::M::(B++[x]).flatMap PB.foot=(T::M::B.flatMap PB.foot)++x.foot:=by simp
 refine⟨by rw[hk T (g.lows T (by simp)).2 hTM];exact g.box,hm,⟨by simp[g.ents.same],?_,?_⟩,fun y hy=>?_,?_,?_,fun l hl2=>?_⟩
 ·rw[map_append,nodup_append]
  refine⟨g.ents.born,by simp,fun a ha b hb e=>?_⟩
  simp only[map_cons,map_nil,mem_singleton]at hb
  obtain⟨q,hq,rfl⟩:=mem_map.1 ha
  have:=g.ents.old q hq
  omega
 ·intro e he
  rcases mem_append.1 he with q|q
  ·have:=g.ents.old e q;omega
  ·simp only[mem_singleton]at q;subst q;exact Nat.lt_succ_self _
 ·rcases mem_append.1 hy with q|q
  ·have hh:∀l∈y.foot,H'[l]?=H[l]?:=fun l hl2=>hk l (g.lows l (Pg.mem_foot q hl2)).2 (hMB y q l hl2)
   exact(g.pgs y q).keep (hh _ (by simp[PB.foot])) (hh _ (by simp[PB.foot])) (hh _ (by simp[PB.foot])) (hh _ (by simp[PB.foot]))
  ·simp only[mem_singleton]at q;subst q;exact hp
 ·rw[hall,nodup_append]
  refine⟨hone,h1,fun a ha b hb e=>?_⟩
  subst e
  exact(hn a hb).2.2 ha
 ·rw[map_append,nodup_append]
  refine⟨g.ids,by simp,fun a ha b hb e=>?_⟩
  simp only[map_cons,map_nil,mem_singleton]at hb
  subst hb
  exact hid (e▸ha)
 ·rw[hall]at hl2
  rcases mem_append.1 hl2 with q|q
  ·have:=g.lows l q;omega
  ·exact⟨(hn l q).1,(hn l q).2.1⟩
theorem PgS.add{H H':List Row}{T M:Nat}{root:Int}{B:List PB}{lo mx mx':Nat}{sl:List aa_}{x:PB}(g:PgS H T M root B lo mx sl)(hrise:dD_ sl)(hn:ag_ sl x.id=none)(hk:∀l,l<H.length→l≠M→H'[l]?=H[l]?)(hl:H.length≤H'.length)(hf:∀l∈x.foot,lo≤l∧l<H'.length∧l∉PB.all T M B)(h1:x.foot.Nodup)
 (hp:gt_ H' x.b x.pg x.k x.v x.d) (hm:∀ents ck,H[M]?=some ⟨.pmap ents ck,0,[]⟩→H'[M]?=some ⟨.pmap (ents++[(x.id,ck,.ptr x.b 1 0 0)]) (ck+1),0,[]⟩) (hmx:mx≤mx') (hlim:Lim H' x.foot mx') :
 PgS H' T M root (B++[x]) lo mx' (av_ ⟨x.id,x.pg⟩ false sl):=by
 obtain⟨⟨ents,ck,g0⟩,g1,g2⟩:=g
 have hnid:x.id∉B.map PB.id:=by
  intro q
  obtain⟨y,hy,e⟩:=mem_map.1 q
  have:=PgS.box ⟨⟨ents,ck,g0⟩,g1,g2⟩ hy
  rw[e,hn]at this;cases this
 have ga:=g0.add2 (H':=H') (x:=x) hk hl hf h1 hnid hp (hm _ _ g0.map)
 have hall:PB.all T M (B++[x])=PB.all T M B++x.foot:=by simp[PB.all]
 refine⟨⟨_,_,ga⟩,fun id=>?_,fun l hl2 r hr=>?_⟩
 ·rw[map_append,map_cons,map_nil,xi_,g1,by_ hrise]
  have e:(PB.slot x).Id=x.id:=rfl
  rw[e]
  by_cases h:x.id=id
  ·rw[if_pos h,if_pos h,←h,hn];rfl
  ·rw[if_neg h,if_neg h]
   cases ag_ sl id<;>rfl
 ·rw[hall]at hl2
  rcases mem_append.1 hl2 with q|q
  ·by_cases e:l=M
   ·subst e
    rw[hm _ _ g0.map]at hr
    obtain rfl:=Option.some.inj hr
    simp
   ·rw[hk l (g0.lows l q).2 e]at hr
    exact Nat.le_trans (g2 l q r hr) hmx
  ·exact hlim l q r hr
theorem cD_.add{T M:Nat}{H0 H H':List Row}{B0 B:List PB}{x:PB}(a:cD_ T M H0 B0 H B)(hk:∀l,l<H.length→l≠M→H'[l]?=H[l]?)(hl:H.length≤H'.length)(hf:∀l∈x.foot,H0.length≤l):cD_ T M H0 B0 H' (B++[x]):=by
 have l1:=a.len
 have hall:PB.all T M (B++[x])=PB.all T M B++x.foot:=by simp[PB.all]
 refine⟨by omega,fun l hl2 hn=>?_,fun l hl2=>?_,fun y hy=>?_⟩
 ·rw[hk l (by omega) (fun e=>hn (by rw[e];simp[PB.all])),a.kept l hl2 hn]
 ·rw[hall]at hl2
  rcases mem_append.1 hl2 with q|q
  ·exact a.foot l q
  ·exact .inr (hf l q)
 ·obtain⟨y1,h1,h2,h3⟩:=a.keeps y hy
  exact⟨y1,mem_append_left _ h1,h2,h3⟩
theorem aR_.cut{H:List Row}{E l:Nat}{α:Type}{f:α→List AV}{xs:List α}{pre post:List (List AV)}(n m:Nat)(hm:xs.length=m)(hn:n≤m)(h:H[l]?=some ⟨.ty E,1,pre++(xs.map f++post)⟩):aR_ H E 1 (.sub l (pre.length+(m+post.length)) pre.length (pre.length+n)) l ((xs.take n).map f):=by
 subst hm
 refine⟨pre,(xs.drop n).map f++post,?_,?_⟩
 ·simp only[la_,length_map,length_take,length_drop]
  congr 1<;>omega
 ·rw[←append_assoc ((xs.take n).map f),←map_append,take_append_drop];exact h
theorem aR_.all{H:List Row}{E l m:Nat}{α:Type}{f:α→List AV}{xs:List α}(hm:xs.length=m)(h:H[l]?=some ⟨.ty E,1,xs.map f⟩):aR_ H E 1 (.sub l m 0 m) l (xs.map f):=by
 subst hm
 exact hA_ h
theorem callSem.nilrow{P:Program}{f:FuncId}{args args':List AV}{h:List Row}{K:AV→List Row→Prop}(E:TypeId)(sz:Nat)(hc:∀S S' xs,S.le S'→Rep S' (.sub h.length 0 0 0) (.slice none 0 0)→af_ S args xs→af_ S' args' xs)(c:callSem P f args' (h++[⟨.ty E,sz,[]⟩]) K):callSem P f args h K:=by
 intro S w vals hm hgl hr
 obtain⟨S',st,hm',hrel⟩:=kU_ (N:=1) (t:=fun _=>AV.val (.slice none 0 0)) (t':=fun _=>AV.own h.length 0) (h:=h) (h':=h++[⟨.ty E,sz,[]⟩]) (.ty E) ⟨E,rfl⟩ sz (fun k=>.inr ⟨rfl,rfl⟩) (by simp) (by rw[getElem?_append_right (Nat.le_refl _),Nat.sub_self];rfl) (fun l r' hl hr=>⟨r',by rwa [getElem?_append_left hl]at hr,rfl,rfl,ec_.refl _ _⟩) S w { tmps:=#[.slice none 0 0],defers:=[] } hm ⟨rfl,rfl,fun k hk=>by
  have:k=0:=by omega
  subst this
  simp[Rep]⟩
 have h0:=hrel.2.2 0 (by omega)
 have h1:Rep S' (.own h.length 0) (.slice none 0 0):=by simpa using h0
 have h2:Rep S' (.sub h.length 0 0 0) (.slice none 0 0):=h1.own_sub
 refine(c S' w vals hm' (cM_.up st.le hgl) (hc S S' _ st.le h2 hr)).mono ?_
 rintro e w' ⟨v,av,S2,h2',rfl,st2,hm2,rv,hk⟩
 exact⟨v,av,S2,h2',rfl,st.trans st2,hm2,rv,hk⟩
def c81:LC :=
 .q [.o [.bx 3 77 1,.ki 4 0],.q [.o [.ki 5 1],.block 0 (.loop (.q [.q [.o [.m 8 5,.bk 9 .leq false 8 64],.k 9 .skip (.exit 0)],.block 1 (.q [.o [.m 13 0,.nc 14 13,.fa 15 1 14,.ln 16 15,.m 17 5,.s 18 (.ext
 (.lookP true (.tmp 16) (.tmp 17))),.m 12 18,.ex 19 12 0,.ex 20 12 1,.m 6 19,.m 7 20],.o [.m 21 7,.nt 22 21],.k 22 (.q [.o [.m 23 0,.nc 24 23,.fa 25 1 24,.ln 26 25,.m 27 5,.z (.ext (.updP (.tmp 26) (.tmp 27)
 (.tmp 3)))],.o [.m 28 5,.m 4 28],.ret]) .skip]),.o [.m 10 5,.bk 11 .add false 10 1,.m 5 11]]))],.o [.ki 4 0],.ret]
def Cr_:LF:=⟨2,29,c81,[.tmp 4]⟩
theorem Db_:az_ Tryz.prog Tryz.f81 Cr_:=at_
theorem tF_{ents:List (Int×Nat×AV)}{n:Int}(h:(c5_ ents n).isSome=false):c5_ ents n=none:=by
 cases e:c5_ ents n with
 | none=>rfl
 | some v=>rw[e]at h;cases h
theorem kD_{H:List Row}{T M:Nat}{root:Int}{ents:List (Int×Nat×AV)}{ck:Nat}{st:de_}(hT:H[T]?=some ⟨.ty 93,2,[[.val (.int .i64 root),.mp M]]⟩)(hM:H[M]?=some ⟨.pmap ents ck,0,[]⟩)(hTM:T≠M)(hst:∀id,(c5_ ents id).isSome=(st id).isSome)(a0 a1 a2 a3:AV)(hcc:[a0,a1,a2,a3].all AV.cell=true)(K:AV→List Row→Prop)
 (h0:aI_ st 64=0→K (.val (.int .i64 0)) (H++[⟨.ty 77,4,[[a0,a1,a2,a3]]⟩])) (h1:aI_ st 64≠0→K (.val (.int .i64 (aI_ st 64))) ((H++[(⟨.ty 77,4,[[a0,a1,a2,a3]]⟩:Row)]).set M ⟨.pmap (ents++[(aI_ st 64,ck,AV.ptr H.length 1 0 0)]) (ck+1),0,[]⟩)) :
 callSem Tryz.prog 81 [.ptr T 1 0 0,.agg [a0,a1,a2,a3]] H K:=by
 refine aJ_ mixed Tryz.func81 Db_ (bi_ rfl ?_)
 have lT:=(List.getElem?_eq_some_iff.1 hT).1
 have lM:=(List.getElem?_eq_some_iff.1 hM).1
 simp(disch:=omega)only[Cr_,c81,hcc,go_sem,seval]
 refine aL_ (fun n t H'=>∃k:Nat,t 0=.ptr T 1 0 0∧t 3=.ptr H.length 1 0 0∧t 5=.val (.int .i64 (64-(k:Int)+1))∧H'=H++[⟨.ty 77,4,[[a0,a1,a2,a3]]⟩]∧n=k∧k≤64∧aI_ st 64=aI_ st k) 64 ?_ ?_
 ·exact⟨64,rfl,rfl,rfl,rfl,rfl,Nat.le_refl _,rfl⟩
 ·rintro J hJ n t H' ⟨k,t0,t3,t5,rfl,rfl,hk,hS⟩
  cases n with
  | zero =>
   have q:(64-((0:Nat):Int)+1≤64)=False:=eq_false (by omega)
   simp(disch:=first|omega|simp only[lzz0_];first|done|omega)only[go_sem,seval,t5]
   exact h0 hS
  | succ k =>
   have q:(64-((k+1:Nat):Int)+1≤64)=True:=eq_true (by omega)
   have q2:64-((k+1:Nat):Int)+1=64-(k:Int):=by omega
   have hf:=hst (64-(k:Int))
   simp(disch:=first|omega|simp only[lzz0_];first|done|omega)only[ab_,go_sem,seval,t0,t5,q,hT,hM]
   rw[q2]
   cases hs:st (64-(k:Int))with
   | none =>
    rw[hs]at hf
    have hfn:=tF_ hf
    have hnew:aI_ st 64=64-(k:Int):=by rw[hS,aI_,if_pos hs]
    have hz:aI_ st 64≠0:=by rw[hnew];omega
    have e1:=pc_ (ck:=ck) (v:=.ptr H.length 1 0 0) hfn
    have e2:hZ_ ents ck (64-(k:Int))=ck+1:=by simp[hZ_,hfn]
    simp(disch:=first|omega|simp only[lzz0_];first|done|omega)only[ab_,go_sem,seval,t0,t3,t5,q2,hT,hM,hfn,e1,e2,Option.isSome_none]
    have:=h1 hz
    rw[hnew]at this
    exact this
   | some p =>
    rw[hs]at hf
    simp(disch:=first|omega|simp only[lzz0_];first|done|omega)only[go_sem,seval,t5,q2,hf,Option.isSome_some,aw_]
    exact⟨k,by omega,hJ _ _ _ ⟨k,by simp[upd,t0],by simp[upd,t3],by simp[upd],rfl,rfl,by omega,by rw[hS,aI_,if_neg (by rw[hs];simp)]⟩⟩
theorem aR_.back{H:List Row}{E l:Nat}{α:Type}{f:α→List AV}{xs:List α}{pre post:List (List AV)}(n m:Nat)(hm:xs.length=m)(hn:n≤m)(h:H[l]?=some ⟨.ty E,1,pre++(xs.map f++post)⟩):aR_ H E 1 (.sub l (pre.length+(m+post.length)) (pre.length+n) (pre.length+m)) l ((xs.drop n).map f):=by
 subst hm
 refine⟨pre++(xs.take n).map f,post,?_,?_⟩
 ·simp only[la_,length_map,length_take,length_drop]
  congr 1<;>omega
 ·rw[append_assoc,←append_assoc ((xs.take n).map f),←map_append,take_append_drop];exact h
theorem A4_{S S':Sit}(hle:S.le S'){p a b c n:AV}(hn:Rep S' n (.slice none 0 0)){xs:List Value}(h:af_ S [p,.agg [a,b,c,.val (.slice none 0 0)]] xs):af_ S' [p,.agg [a,b,c,n]] xs:=by
 simp only[af_]at h⊢
 obtain⟨v,r,e,h1,v2,r2,e2,h2,h3⟩:=h
 refine⟨v,r,e,Rep.up hle _ _ h1,v2,r2,e2,?_,h3⟩
 simp only[Rep,af_]at h2⊢
 obtain⟨vs,e4,w1,q1,e5,g1,w2,q2,e6,g2,w3,q3,e7,g3,w4,q4,e8,g4,g5⟩:=h2
 subst g4
 exact⟨vs,e4,w1,q1,e5,Rep.up hle _ _ g1,w2,q2,e6,Rep.up hle _ _ g2,w3,q3,e7,Rep.up hle _ _ g3,_,q4,e8,hn,g5⟩
theorem wK_{S S':Sit}(hle:S.le S'){p a b c n:AV}(hn:Rep S' n (.slice none 0 0)){xs:List Value}(h:af_ S [p,.agg [a,b,.val (.slice none 0 0),c]] xs):af_ S' [p,.agg [a,b,n,c]] xs:=by
 simp only[af_]at h⊢
 obtain⟨v,r,e,h1,v2,r2,e2,h2,h3⟩:=h
 refine⟨v,r,e,Rep.up hle _ _ h1,v2,r2,e2,?_,h3⟩
 simp only[Rep,af_]at h2⊢
 obtain⟨vs,e4,w1,q1,e5,g1,w2,q2,e6,g2,w3,q3,e7,g3,w4,q4,e8,g4,g5⟩:=h2
 subst g3
 exact⟨vs,e4,w1,q1,e5,Rep.up hle _ _ g1,w2,q2,e6,Rep.up hle _ _ g2,_,q3,e7,hn,w4,q4,e8,Rep.up hle _ _ g4,g5⟩
theorem callSem.at{P:Program}{f:FuncId}{args:List AV}{h:List Row}{K:AV→List Row→Prop}(c:∀H,H=h→callSem P f args H K):callSem P f args h K:=c h rfl
theorem PgS.isSome{H:List Row}{T M:Nat}{root:Int}{B:List PB}{ents:List (Int×Nat×AV)}{ck lo:Nat}{sl:List aa_}(g:Pg H T M root B ents ck lo)(hs:∀id,ag_ (B.map PB.slot) id=ag_ sl id)(id:Int):(c5_ ents id).isSome=(ag_ sl id).isSome:=by
 rw[g.find,←hs,g8_]
 cases B.find? fun x=>x.id==id<;>rfl
theorem hx_{H Hy:List Row}{T M:Nat}{root:Int}{B1 B2:List PB}{x:PB}{lo mx:Nat}{sl:List aa_}(g:PgS H T M root (B1++x::B2) lo mx sl)(ok:cO_ sl){p' right:ai_}(hmx:7≤mx){r1 r2 r3:Nat}{b1 b2 b3:AV}
 (hlen:H.length≤Hy.length) (kept:∀l,l<H.length→l≠x.b→Hy[l]?=H[l]?) (hp:gt_ Hy x.b p' x.k x.v x.d) (h1:aR_ Hy 9 1 b1 r1 (right.Keys.map ah_)) (h2:aR_ Hy 9 1 b2 r2 (right.Vals.map ah_)) (h3:aR_ Hy 2 1 b3 r3 (right.Kids.map aB_))
 (hr:H.length≤r1∧H.length≤r2∧H.length≤r3∧r1≠r2∧r1≠r3∧r2≠r3) (hlim:Lim Hy [r1,r2,r3] mx) (K:AV→List Row→Prop)
 (hK:∀H' B',cD_ T M H (B1++x::B2) H' B'→PgS H' T M root B' lo mx (if aI_ (ag_ sl) 64=0 then av_ ⟨x.id,p'⟩ false sl else av_ ⟨aI_ (ag_ sl) 64,right⟩ false (av_ ⟨x.id,p'⟩ false sl))→K (.val (.int .i64 (aI_ (ag_ sl) 64))) H') :
 callSem Tryz.prog 81 [.ptr T 1 0 0,.agg [.val (.bool right.Leaf),b1,b2,b3]] Hy K:=by
 obtain⟨ents0,ck0,g0⟩:=g.pg
 have hxB:x∈B1++x::B2:=by simp
 have hone:(PB.all T M (B1++x::B2)).Nodup:=g0.one
 rw[(b9_ T M B1 B2 x).nodup_iff,nodup_append]at hone
 have hxn:=hone.1
 have hfoot:∀l∈x.foot,l<H.length∧lo≤l:=fun l hl=>by
  have:=g0.lows l (Pg.mem_foot hxB hl);omega
 have hnb:x.k≠x.b∧x.v≠x.b∧x.d≠x.b:=by
  simp only[PB.foot,nodup_cons,mem_cons,not_or]at hxn
  obtain⟨⟨e1,e2,e3,_⟩,_⟩:=hxn
  exact⟨Ne.symm e1,Ne.symm e2,Ne.symm e3⟩
 have hbox1:∀r,Hy[x.b]?=some r→r.es.length=1:=fun r hq=>by
  obtain⟨_,_,_,o1,_⟩:=hp
  rw[o1]at hq
  obtain rfl:=Option.some.inj hq
  rfl
 obtain⟨gu,hgo⟩:=g.upd (H':=Hy) (x':=⟨x.id,p',x.b,x.k,x.v,x.d⟩) (mx':=mx) ok.rise rfl rfl (fun l hl hn=>kept l hl (fun e=>hn (by rw[e];simp[PB.foot]))) hlen (fun l hl=>.inl hl) hxn hp (Nat.le_refl _) (by
  intro l hl r hq
  have hl':l∈x.foot:=hl
  by_cases e:l=x.b
  ·subst e;have:=hbox1 r hq;omega
  ·rw[kept l (hfoot l hl').1 e]at hq
   exact g.lim l (Pg.mem_foot hxB hl') r hq)
 have hxs:ag_ sl x.id=some x.pg:=g.box hxB
 have hnew:aI_ (ag_ (av_ ⟨x.id,p'⟩ false sl)) 64=aI_ (ag_ sl) 64:=mU_ (fun id=>by
  rw[by_ ok.rise]
  split
  ·rename_i e;rw[←e,hxs];rfl
  ·rfl) 64
 obtain⟨ents,ck,gx⟩:=gu.pg
 have hTM:T≠M:=by
  intro e
  have:=(nodup_cons.1 gx.one).1
  exact this (by simp[e])
 have hall:PB.all T M (B1++(⟨x.id,p',x.b,x.k,x.v,x.d⟩:PB)::B2)=PB.all T M (B1++x::B2):=by simp[PB.all,PB.foot]
 have hlow:∀l∈PB.all T M (B1++x::B2),l<H.length:=fun l hl=>(g0.lows l hl).2
 have hlo:lo≤H.length:=by have:=g0.lows T (by simp);omega
 obtain⟨e1,e2,e3,e4,e5,e6⟩:=hr
 have l1:=h1.lt
 have l2:=h2.lt
 have l3:=h3.lt
 refine kD_ (st:=ag_ (av_ ⟨x.id,p'⟩ false sl)) gx.box gx.map hTM (PgS.isSome gx gu.same) _ _ _ _ (by simp only[all_cons,all_nil,Bool.and_true,h1.cell,h2.cell,h3.cell];rfl) K (fun hz=>?_) (fun hz=>?_)
 ·rw[hnew]at hz
  have:=hK (Hy++[⟨.ty 77,4,[[.val (.bool right.Leaf),b1,b2,b3]]⟩]) _ (hgo.trans (cD_.more (bb_.app _ _))) (by rw[if_pos hz];exact gu.more (bb_.app _ _))
  rw[hz]at this
  exact this
 ·rw[hnew]at hz⊢
  rcases f8_ (st:=ag_ sl) 64 (Nat.le_refl _)with q|⟨q1,q2,q3⟩
  ·exact absurd q hz
  have hMl:M<Hy.length:=(gx.lows M (by simp)).2
  have hMn:M<H.length:=hlow M (by simp[PB.all])
  have hke:∀(r r':Row) (l:Nat),l<Hy.length→l≠M→((Hy++[r]).set M r')[l]?=Hy[l]?:=fun r r' l hl hne=>by
   rw[getElem?_set_ne (Ne.symm hne),getElem?_append_left hl]
  have hbn:∀(r r':Row),((Hy++[r]).set M r')[Hy.length]?=some r:=fun r r'=>by
   rw[getElem?_set_ne (by omega),getElem?_append_right (Nat.le_refl _),Nat.sub_self];rfl
  have hns:ag_ (av_ ⟨x.id,p'⟩ false sl) (aI_ (ag_ sl) 64)=none:=by
   rw[by_ ok.rise]
   split
   ·rename_i e
    have e':x.id=aI_ (ag_ sl) 64:=e
    rw[←e',hxs]at q3;cases q3
   ·exact q3
  have ga:=gu.add (H':=((Hy++([⟨.ty 77,4,[[.val (.bool right.Leaf),b1,b2,b3]]⟩]:List Row)).set M ⟨.pmap (ents++[(aI_ (ag_ sl) 64,ck,AV.ptr Hy.length 1 0 0)]) (ck+1),0,[]⟩)) (x:=⟨aI_ (ag_ sl) 64,right,Hy.length,r1,r2,r3⟩) (mx':=mx) (jp_ ok.rise) hns (fun l hl hne=>hke _ _ l hl hne) (by simp) (by
   intro l hl
   rw[hall]
   simp only[PB.foot,mem_cons,not_mem_nil,or_false]at hl
   have hb:H.length≤l∧l≤Hy.length:=by omega
   refine⟨by omega,by simp only[ls_,la_,lc_,ln_];omega,fun hm=>?_⟩
   have:=hlow l hm
   omega) (by simp only[PB.foot,nodup_cons,mem_cons,not_mem_nil,or_false,not_or,nodup_nil,and_true,not_false_eq_true];omega)
   ⟨b1,b2,b3,hbn _ _,h1.keep (hke _ _ _ l1 (by omega)),h2.keep (hke _ _ _ l2 (by omega)),h3.keep (hke _ _ _ l3 (by omega))⟩ (by
    intro ents' ck' hm
    rw[gx.map]at hm
    have hm:=Option.some.inj hm
    simp only[Row.mk.injEq,Tag.pmap.injEq,and_true]at hm
    obtain⟨rfl,rfl⟩:=hm
    exact getElem?_set_self (by simp;omega)) (Nat.le_refl _) (by
    intro l hl r hq
    simp only[PB.foot,mem_cons,not_mem_nil,or_false]at hl
    rcases hl with rfl|hl
    ·rw[hbn]at hq
     obtain rfl:=Option.some.inj hq
     show 1≤mx
     omega
    ·have hl2:l∈[r1,r2,r3]:=by simpa using hl
     rw[hke _ _ l (by omega) (by omega)]at hq
     exact hlim l hl2 r hq)
  refine hK _ _ (cD_.add (x:=⟨aI_ (ag_ sl) 64,right,Hy.length,r1,r2,r3⟩) hgo (fun l hl hne=>hke _ _ l hl hne) (by simp) (by
   intro l hl
   simp only[PB.foot,mem_cons,not_mem_nil,or_false]at hl
   omega)) ?_
  rw[if_neg hz]
  exact ga
def wH_:LC :=
 .q [.o [.s 4 (.mov (.const (.string ⟨#[]⟩))),.ki 5 0],.o [.m 8 1,.nc 9 8,.fa 10 0 9,.ln 11 10,.s 12 (.build z1z [(0,1),(1,1),(2,1),(3,1)] [(0,.tmp 11)]),.s 6 (.alloc 77 z1z),.st 4 6 12],.o [.s 7 (.mov
 (.const (.string ⟨#[]⟩)))],.q [.o [.m 13 1,.nc 14 13,.fa 15 0 14,.ln 16 15],.k 16 (.q [.o [.m 17 1,.nc 18 17,.fa 19 1 18,.ln 20 19,.s 21 (.indexAddr 1 (.tmp 20) (.const (.int .i64 3))),.ln 22 21,.m 7 22],
 .alts [([.m 23 1,.nc 24 23,.fa 25 1 24,.ln 26 25,.s 27 (.sliceSl 1 (.tmp 26) (some (.const (.int .i64 3))) none),.m 29 1,.nc 30 29,.fa 31 2 30,.ln 32 31,.s 33 (.sliceSl 1 (.tmp 32) (some (.const (.int .i64 3)))
 none)],[(.c1 28 130 27,[.m 29 1,.nc 30 29,.fa 31 2 30,.ln 32 31,.s 33 (.sliceSl 1 (.tmp 32) (some (.const (.int .i64 3))) none)]),(.c1 34 130 33,[]),(.fa 35 1 6,[]),(.st 1 35 28,[]),(.fa 36 2 6,[]),(.st 1
 36 34,[])]),([.m 23 1,.nc 24 23,.fa 25 1 24,.ln 26 25,.s 27 (.sliceSl 1 (.tmp 26) (some (.const (.int .i64 3))) none),.m 29 1,.nc 30 29,.fa 31 2 30,.ln 32 31,.s 33 (.sliceSl 1 (.tmp 32) (some (.const (.int
 .i64 3))) none)],[(.c1 28 130 27,[.m 29 1,.nc 30 29,.fa 31 2 30,.ln 32 31,.s 33 (.sliceSl 1 (.tmp 32) (some (.const (.int .i64 3))) none)]),(.fa 35 1 6,[.m 29 1,.nc 30 29,.fa 31 2 30,.ln 32 31,.s 33 (.sliceSl
 1 (.tmp 32) (some (.const (.int .i64 3))) none)]),(.c1 34 130 33,[]),(.st 1 35 28,[]),(.fa 36 2 6,[]),(.st 1 36 34,[])])],.gops [.m 37 1,.m 38 1,.m 39 1,.nc 40 39,.fa 41 1 40,.ln 42 41,.s 43 (.sliceSl 1
 (.tmp 42) none (some (.const (.int .i64 3)))),.m 44 1,.nc 45 44,.fa 46 2 45,.ln 47 46,.s 48 (.sliceSl 1 (.tmp 47) none (some (.const (.int .i64 3)))),.nc 49 37,.fa 50 1 49] [(.st 1 50 43,[.m 38 1,.s 48 (.sliceSl
 1 (.tmp 47) none (some (.const (.int .i64 3))))]),(.nc 51 38,[]),(.fa 52 2 51,[]),(.st 1 52 48,[])]]) (.q [.o [.m 53 1,.nc 54 53,.fa 55 1 54,.ln 56 55,.s 57 (.indexAddr 1 (.tmp 56) (.const (.int .i64 2))),.ln
 58 57,.m 7 58],.alts [([.m 59 1,.nc 60 59,.fa 61 1 60,.ln 62 61,.s 63 (.sliceSl 1 (.tmp 62) (some (.const (.int .i64 3))) none),.m 65 1,.nc 66 65,.fa 67 3 66,.ln 68 67,.s 69 (.sliceSl 1 (.tmp 68) (some (.const
 (.int .i64 3))) none)],[(.c1 64 130 63,[.m 65 1,.nc 66 65,.fa 67 3 66,.ln 68 67,.s 69 (.sliceSl 1 (.tmp 68) (some (.const (.int .i64 3))) none)]),(.c1 70 131 69,[]),(.fa 71 1 6,[]),(.st 1 71 64,[]),(.fa 72 3
 6,[]),(.st 1 72 70,[])]),([.m 59 1,.nc 60 59,.fa 61 1 60,.ln 62 61,.s 63 (.sliceSl 1 (.tmp 62) (some (.const (.int .i64 3))) none),.m 65 1,.nc 66 65,.fa 67 3 66,.ln 68 67,.s 69 (.sliceSl 1 (.tmp 68) (some
 (.const (.int .i64 3))) none)],[(.c1 64 130 63,[.m 65 1,.nc 66 65,.fa 67 3 66,.ln 68 67,.s 69 (.sliceSl 1 (.tmp 68) (some (.const (.int .i64 3))) none)]),(.fa 71 1 6,[.m 65 1,.nc 66 65,.fa 67 3 66,.ln 68 67,
 .s 69 (.sliceSl 1 (.tmp 68) (some (.const (.int .i64 3))) none)]),(.c1 70 131 69,[]),(.st 1 71 64,[]),(.fa 72 3 6,[]),(.st 1 72 70,[])])],.gops [.m 73 1,.m 74 1,.m 75 1,.nc 76 75,.fa 77 1 76,.ln 78 77,.s
 79 (.sliceSl 1 (.tmp 78) none (some (.const (.int .i64 2)))),.m 80 1,.nc 81 80,.fa 82 3 81,.ln 83 82,.s 84 (.sliceSl 1 (.tmp 83) none (some (.const (.int .i64 3)))),.nc 85 73,.fa 86 1 85] [(.st 1 86 79,[.m 74 1,
 .s 84 (.sliceSl 1 (.tmp 83) none (some (.const (.int .i64 3))))]),(.nc 87 74,[]),(.fa 88 3 87,[]),(.st 1 88 84,[])]])],.o [.m 89 7,.m 90 0,.ld 91 4 6,.c2 92 81 90 91,.m 4 89,.m 5 92],.ret]
def s5_:LF:=⟨2,93,wH_,[.tmp 4,.tmp 5]⟩
theorem uX_:az_ Tryz.prog Tryz.f135 s5_:=at_
theorem gi_{H:List Row}{T M:Nat}{root:Int}{B1 B2:List PB}{x:PB}{lo mx:Nat}{sl:List aa_}(g:PgS H T M root (B1++x::B2) lo mx sl)(ok:cO_ sl)(hmx:7≤mx)(hl:x.pg.Leaf=true)(h7:x.pg.Keys.length=7)(h7v:x.pg.Vals.length=7)(hkd:x.pg.Kids=[])(K:AV→List Row→Prop)
 (hK:∀H' B',cD_ T M H (B1++x::B2) H' B'→PgS H' T M root B' lo mx (if aI_ (ag_ sl) 64=0 then av_ ⟨x.id,(aM_ x.pg).1⟩ false sl else av_ ⟨aI_ (ag_ sl) 64,(aM_ x.pg).2.1⟩ false (av_ ⟨x.id,(aM_ x.pg).1⟩ false sl))→K (.tup [.val (.string (aM_ x.pg).2.2),.val (.int .i64 (aI_ (ag_ sl) 64))]) H') :
 callSem Tryz.prog 135 [.ptr T 1 0 0,.ptr x.b 1 0 0] H K:=by
 have hxB:x∈B1++x::B2:=by simp
 obtain⟨ents0,ck0,g0⟩:=g.pg
 have hT:=(g0.lows T (by simp)).2
 have hlowx:∀l∈x.foot,l<H.length:=fun l hl=>(g0.lows l (Pg.mem_foot hxB hl)).2
 have hone:(PB.all T M (B1++x::B2)).Nodup:=g0.one
 rw[(b9_ T M B1 B2 x).nodup_iff,nodup_append]at hone
 have hxn:=hone.1
 simp only[PB.foot,nodup_cons,mem_cons,not_or,not_mem_nil,not_false_eq_true,and_true,nodup_nil]at hxn
 obtain⟨⟨nk,nv,nd⟩,⟨nkv,nkd⟩,nvd⟩:=hxn
 obtain⟨a1,a2,a3,o1,p1,p2,p3⟩:=g0.pgs x hxB
 have lk:=p1.lt
 have lv:=p2.lt
 have ld:=p3.lt
 obtain⟨pre1,post1,rfl,e1⟩:=p1
 obtain⟨pre2,post2,rfl,e2⟩:=p2
 have lb:=(List.getElem?_eq_some_iff.1 o1).1
 have z1:pre1.length+7-pre1.length=7:=by omega
 have z2:pre2.length+7-pre2.length=7:=by omega
 have c1:((pre1.length:Int)+3<((pre1.length+7:Nat):Int))=True:=eq_true (by omega)
 have e3:aM_ x.pg=(⟨true,x.pg.Keys.take 3,x.pg.Vals.take 3,[]⟩,⟨true,x.pg.Keys.drop 3,x.pg.Vals.drop 3,[]⟩,x.pg.Keys.getD 3 ⟨#[]⟩):=by rw[aM_,if_pos hl]
 rw[e3]at hK
 simp only at hK
 have hc3:a3.cell=true:=p3.cell
 have h4:(x.pg.Keys.drop 3).length=4:=by rw[length_drop,h7]
 have h4v:(x.pg.Vals.drop 3).length=4:=by rw[length_drop,h7v]
 refine aJ_ mixed Tryz.func135 uX_ (bi_ rfl ?_)
 have g1:(pre1++(x.pg.Keys.map ah_++post1))[pre1.length+3]?=some (ah_ (x.pg.Keys.getD 3 ⟨#[]⟩)):=by rw[jK_ _ _ _ _ (by simp;omega)];simp[h7]
 simp(disch:=omega)only[s5_,wH_,o1,hl,bT_,go_sem,seval]
 simp(disch:=first|omega|simp only[lzz0_];first|done|omega)only[ab_,go_sem,seval,o1,e1,e2,hl,h7,h7v,z1,z2,c1,g1]
 refine⟨?_,?_⟩
 ·refine bS_ (x.pg.Keys.drop 3) (by rw[length_drop];omega) _ _ x.k (aR_.keep (aR_.back 3 7 h7 (by omega) e1) (ab_ lk)) _ ?_
  rw[h4]
  simp(disch:=first|omega|simp only[lzz0_];first|done|omega)only[ab_,go_sem,seval,o1,e2,hl,h7,h7v,z2]
  refine bS_ (x.pg.Vals.drop 3) (by rw[length_drop];omega) _ _ x.v (aR_.keep (aR_.back 3 7 h7v (by omega) e2) (by(simp(disch:=(first|omega|(simp only[ls_,la_,lc_,ln_];omega)))only[ab_]))) _ ?_
  rw[h4v]
  simp(disch:=first|omega|simp only[lzz0_];first|done|omega)only[am_,aq_,ab_,as_,go_sem,seval,o1,e1,e2,hl,h7,h7v]
  refine callSem.at fun Hx hHx=>?_
  have len:Hx.length=H.length+3:=by rw[hHx];simp
  have kept:∀l,l<H.length→l≠x.b→Hx[l]?=H[l]?:=fun l q1 q2=>by rw[hHx];(simp(disch:=(first|omega|(simp only[ls_,la_,lc_,ln_];omega)))only[am_,ab_])
  have bx:Hx[x.b]?=some ⟨.ty 77,4,[[.val (.bool true),.sub x.k (pre1.length+(7+post1.length)) pre1.length (pre1.length+3),.sub x.v (pre2.length+(7+post2.length)) pre2.length (pre2.length+3),a3]]⟩:=by rw[hHx];(simp(disch:=(first|omega|(simp only[ls_,la_,lc_,ln_];omega)))only[aq_])
  have rk:Hx[H.length+1]?=some ⟨.ty 9,1,(x.pg.Keys.drop 3).map ah_⟩:=by rw[hHx];(simp(disch:=(first|omega|(simp only[ls_,la_,lc_,ln_];omega)))only[am_,aX_])
  have rv:Hx[H.length+2]?=some ⟨.ty 9,1,(x.pg.Vals.drop 3).map ah_⟩:=by rw[hHx];(simp(disch:=(first|omega|(simp only[ls_,la_,lc_,ln_];omega)))only[am_,bO_])
  clear hHx
  refine callSem.nilrow 2 1 (fun S S' xs le hn hr=>A4_ le hn hr) ?_
  have ol:∀(r:Row) l,l<Hx.length→(Hx++[r])[l]?=Hx[l]?:=fun r l q=>getElem?_append_left q
  refine hx_ g ok (p':=⟨true,x.pg.Keys.take 3,x.pg.Vals.take 3,[]⟩) (right:=⟨true,x.pg.Keys.drop 3,x.pg.Vals.drop 3,[]⟩) hmx (r1:=H.length+1) (r2:=H.length+2) (r3:=Hx.length) (by simp;omega) (fun l q1 q2=>(ol _ l (by omega)).trans (kept l q1 q2))
   ⟨_,_,_,(ol _ _ (by omega)).trans bx,aR_.keep (aR_.cut 3 7 h7 (by omega) e1) ((ol _ _ (by omega)).trans (kept _ lk (Ne.symm nk))),aR_.keep (aR_.cut 3 7 h7v (by omega) e2) ((ol _ _ (by omega)).trans (kept _ lv (Ne.symm nv))),aR_.keep (by rw[hkd]at p3;exact p3) ((ol _ _ (by omega)).trans (kept _ ld (Ne.symm nd)))⟩
   (aR_.all h4 ((ol _ _ (by omega)).trans rk)) (aR_.all h4v ((ol _ _ (by omega)).trans rv)) (aR_.all (f:=aB_) (xs:=[]) rfl (by rw[getElem?_append_right (Nat.le_refl _),Nat.sub_self];rfl)) (by omega) ?_ _ ?_
  ·intro l hl2 r hq
   simp only[mem_cons,not_mem_nil,or_false]at hl2
   rcases hl2 with rfl|rfl|rfl
   ·rw[(ol _ _ (by omega)).trans rk]at hq
    obtain rfl:=Option.some.inj hq
    rw[length_map,h4];omega
   ·rw[(ol _ _ (by omega)).trans rv]at hq
    obtain rfl:=Option.some.inj hq
    rw[length_map,h4v];omega
   ·rw[getElem?_append_right (Nat.le_refl _),Nat.sub_self]at hq
    obtain rfl:=Option.some.inj hq
    exact Nat.zero_le _
  ·intro H' B' hgo hpg
   simp(disch:=first|omega|simp only[lzz0_];first|done|omega)only[go_sem,seval]
   exact hK H' B' hgo hpg
 ·refine bS_ (x.pg.Keys.drop 3) (by rw[length_drop];omega) _ _ x.k (aR_.keep (aR_.back 3 7 h7 (by omega) e1) (ab_ lk)) _ ?_
  rw[h4]
  simp(disch:=first|omega|simp only[lzz0_];first|done|omega)only[ab_,as_,go_sem,seval,o1,e2,hl,h7,h7v,z2]
  refine bS_ (x.pg.Vals.drop 3) (by rw[length_drop];omega) _ _ x.v (aR_.keep (aR_.back 3 7 h7v (by omega) e2) (by(simp(disch:=(first|omega|(simp only[ls_,la_,lc_,ln_];omega)))only[ab_]))) _ ?_
  rw[h4v]
  simp(disch:=first|omega|simp only[lzz0_];first|done|omega)only[am_,aq_,ab_,as_,go_sem,seval,o1,e1,e2,hl,h7,h7v]
  refine callSem.at fun Hx hHx=>?_
  have len:Hx.length=H.length+3:=by rw[hHx];simp
  have kept:∀l,l<H.length→l≠x.b→Hx[l]?=H[l]?:=fun l q1 q2=>by rw[hHx];(simp(disch:=(first|omega|(simp only[ls_,la_,lc_,ln_];omega)))only[am_,ab_])
  have bx:Hx[x.b]?=some ⟨.ty 77,4,[[.val (.bool true),.sub x.k (pre1.length+(7+post1.length)) pre1.length (pre1.length+3),.sub x.v (pre2.length+(7+post2.length)) pre2.length (pre2.length+3),a3]]⟩:=by rw[hHx];(simp(disch:=(first|omega|(simp only[ls_,la_,lc_,ln_];omega)))only[aq_])
  have rk:Hx[H.length+1]?=some ⟨.ty 9,1,(x.pg.Keys.drop 3).map ah_⟩:=by rw[hHx];(simp(disch:=(first|omega|(simp only[ls_,la_,lc_,ln_];omega)))only[am_,aX_])
  have rv:Hx[H.length+2]?=some ⟨.ty 9,1,(x.pg.Vals.drop 3).map ah_⟩:=by rw[hHx];(simp(disch:=(first|omega|(simp only[ls_,la_,lc_,ln_];omega)))only[am_,bO_])
  clear hHx
  refine callSem.nilrow 2 1 (fun S S' xs le hn hr=>A4_ le hn hr) ?_
  have ol:∀(r:Row) l,l<Hx.length→(Hx++[r])[l]?=Hx[l]?:=fun r l q=>getElem?_append_left q
  refine hx_ g ok (p':=⟨true,x.pg.Keys.take 3,x.pg.Vals.take 3,[]⟩) (right:=⟨true,x.pg.Keys.drop 3,x.pg.Vals.drop 3,[]⟩) hmx (r1:=H.length+1) (r2:=H.length+2) (r3:=Hx.length) (by simp;omega) (fun l q1 q2=>(ol _ l (by omega)).trans (kept l q1 q2))
   ⟨_,_,_,(ol _ _ (by omega)).trans bx,aR_.keep (aR_.cut 3 7 h7 (by omega) e1) ((ol _ _ (by omega)).trans (kept _ lk (Ne.symm nk))),aR_.keep (aR_.cut 3 7 h7v (by omega) e2) ((ol _ _ (by omega)).trans (kept _ lv (Ne.symm nv))),aR_.keep (by rw[hkd]at p3;exact p3) ((ol _ _ (by omega)).trans (kept _ ld (Ne.symm nd)))⟩
   (aR_.all h4 ((ol _ _ (by omega)).trans rk)) (aR_.all h4v ((ol _ _ (by omega)).trans rv)) (aR_.all (f:=aB_) (xs:=[]) rfl (by rw[getElem?_append_right (Nat.le_refl _),Nat.sub_self];rfl)) (by omega) ?_ _ ?_
  ·intro l hl2 r hq
   simp only[mem_cons,not_mem_nil,or_false]at hl2
   rcases hl2 with rfl|rfl|rfl
   ·rw[(ol _ _ (by omega)).trans rk]at hq
    obtain rfl:=Option.some.inj hq
    rw[length_map,h4];omega
   ·rw[(ol _ _ (by omega)).trans rv]at hq
    obtain rfl:=Option.some.inj hq
    rw[length_map,h4v];omega
   ·rw[getElem?_append_right (Nat.le_refl _),Nat.sub_self]at hq
    obtain rfl:=Option.some.inj hq
    exact Nat.zero_le _
  ·intro H' B' hgo hpg
   simp(disch:=first|omega|simp only[lzz0_];first|done|omega)only[go_sem,seval]
   exact hK H' B' hgo hpg
theorem gr_{H:List Row}{T M:Nat}{root:Int}{B1 B2:List PB}{x:PB}{lo mx:Nat}{sl:List aa_}(g:PgS H T M root (B1++x::B2) lo mx sl)(ok:cO_ sl)(hmx:7≤mx)(hl:x.pg.Leaf=false)(h7:x.pg.Keys.length=6)(h7v:x.pg.Kids.length=7)(hkd:x.pg.Vals=[])(K:AV→List Row→Prop)
 (hK:∀H' B',cD_ T M H (B1++x::B2) H' B'→PgS H' T M root B' lo mx (if aI_ (ag_ sl) 64=0 then av_ ⟨x.id,(aM_ x.pg).1⟩ false sl else av_ ⟨aI_ (ag_ sl) 64,(aM_ x.pg).2.1⟩ false (av_ ⟨x.id,(aM_ x.pg).1⟩ false sl))→K (.tup [.val (.string (aM_ x.pg).2.2),.val (.int .i64 (aI_ (ag_ sl) 64))]) H') :
 callSem Tryz.prog 135 [.ptr T 1 0 0,.ptr x.b 1 0 0] H K:=by
 have hxB:x∈B1++x::B2:=by simp
 obtain⟨ents0,ck0,g0⟩:=g.pg
 have hT:=(g0.lows T (by simp)).2
 have hlowx:∀l∈x.foot,l<H.length:=fun l hl=>(g0.lows l (Pg.mem_foot hxB hl)).2
 have hone:(PB.all T M (B1++x::B2)).Nodup:=g0.one
 rw[(b9_ T M B1 B2 x).nodup_iff,nodup_append]at hone
 have hxn:=hone.1
 simp only[PB.foot,nodup_cons,mem_cons,not_or,not_mem_nil,not_false_eq_true,and_true,nodup_nil]at hxn
 obtain⟨⟨nk,nv,nd⟩,⟨nkv,nkd⟩,nvd⟩:=hxn
 obtain⟨a1,a2,a3,o1,p1,p2,p3⟩:=g0.pgs x hxB
 have lk:=p1.lt
 have lv:=p2.lt
 have ld:=p3.lt
 obtain⟨pre1,post1,rfl,e1⟩:=p1
 obtain⟨pre2,post2,rfl,e2⟩:=p3
 have lb:=(List.getElem?_eq_some_iff.1 o1).1
 have z1:pre1.length+6-pre1.length=6:=by omega
 have z2:pre2.length+7-pre2.length=7:=by omega
 have c1:((pre1.length:Int)+2<((pre1.length+6:Nat):Int))=True:=eq_true (by omega)
 have e3:aM_ x.pg=(⟨false,x.pg.Keys.take 2,[],x.pg.Kids.take 3⟩,⟨false,x.pg.Keys.drop 3,[],x.pg.Kids.drop 3⟩,x.pg.Keys.getD 2 ⟨#[]⟩):=by rw[aM_,if_neg (by rw[hl];simp)]
 rw[e3]at hK
 simp only at hK
 have hc3:a2.cell=true:=p2.cell
 have h4:(x.pg.Keys.drop 3).length=3:=by rw[length_drop,h7]
 have h4v:(x.pg.Kids.drop 3).length=4:=by rw[length_drop,h7v]
 refine aJ_ mixed Tryz.func135 uX_ (bi_ rfl ?_)
 have g1:(pre1++(x.pg.Keys.map ah_++post1))[pre1.length+2]?=some (ah_ (x.pg.Keys.getD 2 ⟨#[]⟩)):=by rw[jK_ _ _ _ _ (by simp;omega)];simp[h7]
 simp(disch:=omega)only[s5_,wH_,o1,hl,bT_,go_sem,seval]
 simp(disch:=first|omega|simp only[lzz0_];first|done|omega)only[ab_,go_sem,seval,o1,e1,e2,hl,h7,h7v,z1,z2,c1,g1]
 refine⟨?_,?_⟩
 ·refine bS_ (x.pg.Keys.drop 3) (by rw[length_drop];omega) _ _ x.k (aR_.keep (aR_.back 3 6 h7 (by omega) e1) (ab_ lk)) _ ?_
  rw[h4]
  simp(disch:=first|omega|simp only[lzz0_];first|done|omega)only[ab_,go_sem,seval,o1,e2,hl,h7,h7v,z2]
  refine eC_ (x.pg.Kids.drop 3) (by rw[length_drop];omega) _ _ x.d (aR_.keep (aR_.back 3 7 h7v (by omega) e2) (by(simp(disch:=(first|omega|(simp only[ls_,la_,lc_,ln_];omega)))only[ab_]))) _ ?_
  rw[h4v]
  simp(disch:=first|omega|simp only[lzz0_];first|done|omega)only[am_,aq_,ab_,as_,go_sem,seval,o1,e1,e2,hl,h7,h7v]
  refine callSem.at fun Hx hHx=>?_
  have len:Hx.length=H.length+3:=by rw[hHx];simp
  have kept:∀l,l<H.length→l≠x.b→Hx[l]?=H[l]?:=fun l q1 q2=>by rw[hHx];(simp(disch:=(first|omega|(simp only[ls_,la_,lc_,ln_];omega)))only[am_,ab_])
  have bx:Hx[x.b]?=some ⟨.ty 77,4,[[.val (.bool false),.sub x.k (pre1.length+(6+post1.length)) pre1.length (pre1.length+2),a2,.sub x.d (pre2.length+(7+post2.length)) pre2.length (pre2.length+3)]]⟩:=by rw[hHx];(simp(disch:=(first|omega|(simp only[ls_,la_,lc_,ln_];omega)))only[aq_])
  have rk:Hx[H.length+1]?=some ⟨.ty 9,1,(x.pg.Keys.drop 3).map ah_⟩:=by rw[hHx];(simp(disch:=(first|omega|(simp only[ls_,la_,lc_,ln_];omega)))only[am_,aX_])
  have rv:Hx[H.length+2]?=some ⟨.ty 2,1,(x.pg.Kids.drop 3).map aB_⟩:=by rw[hHx];(simp(disch:=(first|omega|(simp only[ls_,la_,lc_,ln_];omega)))only[am_,bO_])
  clear hHx
  refine callSem.nilrow 9 1 (fun S S' xs le hn hr=>wK_ le hn hr) ?_
  have ol:∀(r:Row) l,l<Hx.length→(Hx++[r])[l]?=Hx[l]?:=fun r l q=>getElem?_append_left q
  refine hx_ g ok (p':=⟨false,x.pg.Keys.take 2,[],x.pg.Kids.take 3⟩) (right:=⟨false,x.pg.Keys.drop 3,[],x.pg.Kids.drop 3⟩) hmx (r1:=H.length+1) (r2:=Hx.length) (r3:=H.length+2) (by simp;omega) (fun l q1 q2=>(ol _ l (by omega)).trans (kept l q1 q2))
   ⟨_,_,_,(ol _ _ (by omega)).trans bx,aR_.keep (aR_.cut 2 6 h7 (by omega) e1) ((ol _ _ (by omega)).trans (kept _ lk (Ne.symm nk))),aR_.keep (by rw[hkd]at p2;exact p2) ((ol _ _ (by omega)).trans (kept _ lv (Ne.symm nv))),aR_.keep (aR_.cut 3 7 h7v (by omega) e2) ((ol _ _ (by omega)).trans (kept _ ld (Ne.symm nd)))⟩
   (aR_.all h4 ((ol _ _ (by omega)).trans rk)) (aR_.all (f:=ah_) (xs:=[]) rfl (by rw[getElem?_append_right (Nat.le_refl _),Nat.sub_self];rfl)) (aR_.all h4v ((ol _ _ (by omega)).trans rv)) (by omega) ?_ _ ?_
  ·intro l hl2 r hq
   simp only[mem_cons,not_mem_nil,or_false]at hl2
   rcases hl2 with rfl|rfl|rfl
   ·rw[(ol _ _ (by omega)).trans rk]at hq
    obtain rfl:=Option.some.inj hq
    rw[length_map,h4];omega
   ·rw[getElem?_append_right (Nat.le_refl _),Nat.sub_self]at hq
    obtain rfl:=Option.some.inj hq
    exact Nat.zero_le _
   ·rw[(ol _ _ (by omega)).trans rv]at hq
    obtain rfl:=Option.some.inj hq
    rw[length_map,h4v];omega
  ·intro H' B' hgo hpg
   simp(disch:=first|omega|simp only[lzz0_];first|done|omega)only[go_sem,seval]
   exact hK H' B' hgo hpg
 ·refine bS_ (x.pg.Keys.drop 3) (by rw[length_drop];omega) _ _ x.k (aR_.keep (aR_.back 3 6 h7 (by omega) e1) (ab_ lk)) _ ?_
  rw[h4]
  simp(disch:=first|omega|simp only[lzz0_];first|done|omega)only[ab_,as_,go_sem,seval,o1,e2,hl,h7,h7v,z2]
  refine eC_ (x.pg.Kids.drop 3) (by rw[length_drop];omega) _ _ x.d (aR_.keep (aR_.back 3 7 h7v (by omega) e2) (by(simp(disch:=(first|omega|(simp only[ls_,la_,lc_,ln_];omega)))only[ab_]))) _ ?_
  rw[h4v]
  simp(disch:=first|omega|simp only[lzz0_];first|done|omega)only[am_,aq_,ab_,as_,go_sem,seval,o1,e1,e2,hl,h7,h7v]
  refine callSem.at fun Hx hHx=>?_
  have len:Hx.length=H.length+3:=by rw[hHx];simp
  have kept:∀l,l<H.length→l≠x.b→Hx[l]?=H[l]?:=fun l q1 q2=>by rw[hHx];(simp(disch:=(first|omega|(simp only[ls_,la_,lc_,ln_];omega)))only[am_,ab_])
  have bx:Hx[x.b]?=some ⟨.ty 77,4,[[.val (.bool false),.sub x.k (pre1.length+(6+post1.length)) pre1.length (pre1.length+2),a2,.sub x.d (pre2.length+(7+post2.length)) pre2.length (pre2.length+3)]]⟩:=by rw[hHx];(simp(disch:=(first|omega|(simp only[ls_,la_,lc_,ln_];omega)))only[aq_])
  have rk:Hx[H.length+1]?=some ⟨.ty 9,1,(x.pg.Keys.drop 3).map ah_⟩:=by rw[hHx];(simp(disch:=(first|omega|(simp only[ls_,la_,lc_,ln_];omega)))only[am_,aX_])
  have rv:Hx[H.length+2]?=some ⟨.ty 2,1,(x.pg.Kids.drop 3).map aB_⟩:=by rw[hHx];(simp(disch:=(first|omega|(simp only[ls_,la_,lc_,ln_];omega)))only[am_,bO_])
  clear hHx
  refine callSem.nilrow 9 1 (fun S S' xs le hn hr=>wK_ le hn hr) ?_
  have ol:∀(r:Row) l,l<Hx.length→(Hx++[r])[l]?=Hx[l]?:=fun r l q=>getElem?_append_left q
  refine hx_ g ok (p':=⟨false,x.pg.Keys.take 2,[],x.pg.Kids.take 3⟩) (right:=⟨false,x.pg.Keys.drop 3,[],x.pg.Kids.drop 3⟩) hmx (r1:=H.length+1) (r2:=Hx.length) (r3:=H.length+2) (by simp;omega) (fun l q1 q2=>(ol _ l (by omega)).trans (kept l q1 q2))
   ⟨_,_,_,(ol _ _ (by omega)).trans bx,aR_.keep (aR_.cut 2 6 h7 (by omega) e1) ((ol _ _ (by omega)).trans (kept _ lk (Ne.symm nk))),aR_.keep (by rw[hkd]at p2;exact p2) ((ol _ _ (by omega)).trans (kept _ lv (Ne.symm nv))),aR_.keep (aR_.cut 3 7 h7v (by omega) e2) ((ol _ _ (by omega)).trans (kept _ ld (Ne.symm nd)))⟩
   (aR_.all h4 ((ol _ _ (by omega)).trans rk)) (aR_.all (f:=ah_) (xs:=[]) rfl (by rw[getElem?_append_right (Nat.le_refl _),Nat.sub_self];rfl)) (aR_.all h4v ((ol _ _ (by omega)).trans rv)) (by omega) ?_ _ ?_
  ·intro l hl2 r hq
   simp only[mem_cons,not_mem_nil,or_false]at hl2
   rcases hl2 with rfl|rfl|rfl
   ·rw[(ol _ _ (by omega)).trans rk]at hq
    obtain rfl:=Option.some.inj hq
    rw[length_map,h4];omega
   ·rw[getElem?_append_right (Nat.le_refl _),Nat.sub_self]at hq
    obtain rfl:=Option.some.inj hq
    exact Nat.zero_le _
   ·rw[(ol _ _ (by omega)).trans rv]at hq
    obtain rfl:=Option.some.inj hq
    rw[length_map,h4v];omega
  ·intro H' B' hgo hpg
   simp(disch:=first|omega|simp only[lzz0_];first|done|omega)only[go_sem,seval]
   exact hK H' B' hgo hpg
theorem dw_{sl:List aa_}(hr:dD_ sl){id:Int}{p:ai_}:ag_ (av_ ⟨id,p⟩ false sl) id=some p:=by rw[by_ hr,if_pos rfl]
theorem gH_{H Hc:List Row}{T M:Nat}{root:Int}{B1 B2:List PB}{x:PB}{lo mx mx':Nat}{sl:List aa_}(g:PgS H T M root (B1++x::B2) lo mx sl)(hrise:dD_ sl){p':ai_}{k v d:Nat}(hmx:mx≤mx')(h1:1≤mx)(hlen:H.length≤Hc.length)(kept:∀l,l<H.length→l∉x.foot→Hc[l]?=H[l]?)(hp:gt_ Hc x.b p' k v d)
 (hk:k=x.k∨(H.length≤k∧k<Hc.length)) (hv:v=x.v∨(H.length≤v∧v<Hc.length)) (hd:d=x.d∨(H.length≤d∧d<Hc.length)) (hne:k≠v∧k≠d∧v≠d) (hl1:∀r,Hc[k]?=some r→r.es.length≤mx') (hl2:∀r,Hc[v]?=some r→r.es.length≤mx') (hl3:∀r,Hc[d]?=some r→r.es.length≤mx') :
 PgS Hc T M root (B1++⟨x.id,p',x.b,k,v,d⟩::B2) lo mx' (av_ ⟨x.id,p'⟩ false sl)∧cD_ T M H (B1++x::B2) Hc (B1++⟨x.id,p',x.b,k,v,d⟩::B2):=by
 obtain⟨ents0,ck0,g0⟩:=g.pg
 have hxB:x∈B1++x::B2:=by simp
 have hone:(PB.all T M (B1++x::B2)).Nodup:=g0.one
 rw[(b9_ T M B1 B2 x).nodup_iff,nodup_append]at hone
 have hxn:=hone.1
 have hfoot:∀l∈x.foot,l<H.length:=fun l hl=>(g0.lows l (Pg.mem_foot hxB hl)).2
 have f1:=hfoot x.b (by simp[PB.foot])
 simp only[PB.foot,nodup_cons,mem_cons,not_or,not_mem_nil,not_false_eq_true,and_true,nodup_nil]at hxn
 obtain⟨⟨nk,nv,nd⟩,⟨nkv,nkd⟩,nvd⟩:=hxn
 have q1:k∈x.foot∨(H.length≤k∧k<Hc.length):=by rcases hk with e|e;exact .inl (by rw[e];simp[PB.foot]);exact .inr e
 have q2:v∈x.foot∨(H.length≤v∧v<Hc.length):=by rcases hv with e|e;exact .inl (by rw[e];simp[PB.foot]);exact .inr e
 have q3:d∈x.foot∨(H.length≤d∧d<Hc.length):=by rcases hd with e|e;exact .inl (by rw[e];simp[PB.foot]);exact .inr e
 refine g.upd (x':=⟨x.id,p',x.b,k,v,d⟩) hrise rfl rfl kept hlen ?_ ?_ hp hmx ?_
 ·intro l hl
  simp only[PB.foot,mem_cons,not_mem_nil,or_false]at hl
  rcases hl with rfl|rfl|rfl|rfl
  ·exact .inl (by simp[PB.foot])
  ·exact q1
  ·exact q2
  ·exact q3
 ·simp only[PB.foot,nodup_cons,mem_cons,not_or,not_mem_nil,not_false_eq_true,and_true,nodup_nil]
  omega
 ·intro l hl r hq
  simp only[PB.foot,mem_cons,not_mem_nil,or_false]at hl
  rcases hl with rfl|rfl|rfl|rfl
  ·obtain⟨_,_,_,o1,_⟩:=hp
   rw[o1]at hq
   obtain rfl:=Option.some.inj hq
   show 1≤mx'
   omega
  ·exact hl1 r hq
  ·exact hl2 r hq
  ·exact hl3 r hq
theorem PgS.mono{H:List Row}{T M:Nat}{root:Int}{B:List PB}{lo mx mx':Nat}{sl:List aa_}(g:PgS H T M root B lo mx sl)(h:mx≤mx'):PgS H T M root B lo mx' sl:=⟨g.pg,g.same,fun l hl r hr=>Nat.le_trans (g.lim l hl r hr) h⟩
def c80:LC :=
 .q [.o [.s 8 (.mov (.const (.string ⟨#[]⟩))),.ki 9 0,.ki 10 0],.o [.m 20 1,.nc 21 20,.ld 22 4 21,.m 23 2,.c2 24 132 22 23,.m 19 24,.ex 25 19 0,.ex 26 19 1,.m 11 25,.m 12 26],.o [.f 13],.block 0 (.q [.o [.m
 82 1,.nc 83 82,.fa 84 0 83,.ln 85 84,.m 86 85,.gm 87 86 true 12,.pf 88 86 87,.m 81 88],.k 81 (.o [.m 89 1,.nc 90 89,.fa 91 2 90,.ln 92 91,.m 93 11,.m 94 3,.ia 95 1 92 93,.st 1 95 94]) (.q [.o [.m 97 1,.nc
 98 97,.fa 99 0 98,.ln 100 99,.m 96 100],.k 96 (.q [.alts [([.m 101 1,.m 102 1,.m 103 1,.nc 104 103,.fa 105 1 104,.ln 106 105,.m 107 11,.m 108 2,.m 111 1,.nc 112 111,.fa 113 2 112,.ln 114 113,.m 115 11,.m
 116 3],[(.s 109 (.buildSlice 9 1 (.string ⟨#[]⟩) 1 [(0,.tmp 108)]),[.m 101 1,.m 102 1,.m 103 1,.nc 104 103,.fa 105 1 104,.ln 106 105,.m 107 11,.m 111 1,.nc 112 111,.fa 113 2 112,.ln 114 113,.m 115 11,.m
 116 3]),(.c3 110 133 106 107 109,[.m 101 1,.m 102 1,.m 111 1,.nc 112 111,.fa 113 2 112,.ln 114 113,.m 115 11,.m 116 3]),(.s 117 (.buildSlice 9 1 (.string ⟨#[]⟩) 1 [(0,.tmp 116)]),[.m 101 1,.m 102 1,.m 111
 1,.nc 112 111,.fa 113 2 112,.ln 114 113,.m 115 11]),(.c3 118 133 114 115 117,[.m 101 1,.m 102 1]),(.nc 119 101,[.m 102 1]),(.fa 120 1 119,[.m 102 1]),(.st 1 120 110,[.m 102 1]),(.nc 121 102,[]),(.fa 122 2
 121,[]),(.st 1 122 118,[])]),([.m 101 1,.m 102 1,.m 103 1,.nc 104 103,.fa 105 1 104,.ln 106 105,.m 107 11,.m 108 2,.m 116 3,.m 111 1,.nc 112 111,.fa 113 2 112,.ln 114 113,.m 115 11],[(.s 109
 (.buildSlice 9 1 (.string ⟨#[]⟩) 1 [(0,.tmp 108)]),[.m 101 1,.m 102 1,.m 103 1,.nc 104 103,.fa 105 1 104,.ln 106 105,.m 107 11,.m 116 3,.m 111 1,.nc 112 111,.fa 113 2 112,.ln 114 113,.m 115 11]),(.s 117
 (.buildSlice 9 1 (.string ⟨#[]⟩) 1 [(0,.tmp 116)]),[.m 101 1,.m 102 1,.m 103 1,.nc 104 103,.fa 105 1 104,.ln 106 105,.m 107 11,.m 111 1,.nc 112 111,.fa 113 2 112,.ln 114 113,.m 115 11]),(.c3 110 133 106 107
 109,[.m 101 1,.m 102 1,.m 111 1,.nc 112 111,.fa 113 2 112,.ln 114 113,.m 115 11]),(.c3 118 133 114 115 117,[.m 101 1,.m 102 1]),(.nc 119 101,[.m 102 1]),(.fa 120 1 119,[.m 102 1]),(.st 1 120 110,[.m 102
 1]),(.nc 121 102,[]),(.fa 122 2 121,[]),(.st 1 122 118,[])]),([.m 101 1,.m 102 1,.m 103 1,.nc 104 103,.fa 105 1 104,.ln 106 105,.m 107 11,.m 108 2,.m 116 3,.m 111 1,.nc 112 111,.fa 113 2 112,.ln 114
 113,.m 115 11],[(.s 117 (.buildSlice 9 1 (.string ⟨#[]⟩) 1 [(0,.tmp 116)]),[.m 101 1,.m 102 1,.m 103 1,.nc 104 103,.fa 105 1 104,.ln 106 105,.m 107 11,.m 108 2,.m 111 1,.nc 112 111,.fa 113 2 112,.ln 114
 113,.m 115 11]),(.s 109 (.buildSlice 9 1 (.string ⟨#[]⟩) 1 [(0,.tmp 108)]),[.m 101 1,.m 102 1,.m 103 1,.nc 104 103,.fa 105 1 104,.ln 106 105,.m 107 11,.m 111 1,.nc 112 111,.fa 113 2 112,.ln 114 113,.m 115
 11]),(.c3 110 133 106 107 109,[.m 101 1,.m 102 1,.m 111 1,.nc 112 111,.fa 113 2 112,.ln 114 113,.m 115 11]),(.c3 118 133 114 115 117,[.m 101 1,.m 102 1]),(.nc 119 101,[.m 102 1]),(.fa 120 1 119,[.m 102
 1]),(.st 1 120 110,[.m 102 1]),(.nc 121 102,[]),(.fa 122 2 121,[]),(.st 1 122 118,[])])],.o [.m 123 1,.nc 124 123,.fa 125 1 124,.ln 126 125,.ll 127 126,.bk 128 .gtr false 127 6,.m 13 128]]) (.q [.gops [.m
 28 0,.m 29 0,.nc 30 29,.fa 31 1 30,.ln 32 31,.m 33 1,.nc 34 33,.fa 35 3 34,.ln 36 35,.m 37 11,.ia 38 1 36 37,.ln 39 38,.s 40 (.ext (.lookP false (.tmp 32) (.tmp 39))),.m 41 2,.m 42 3] [(.s 43 (.call 80
 [.tmp 28,.tmp 40,.tmp 41,.tmp 42]),[]),(.m 27 43,[]),(.ex 44 27 0,[]),(.ex 45 27 1,[]),(.ex 46 27 2,[]),(.m 14 44,[]),(.m 15 45,[]),(.m 16 46,[])],.q [.o [.m 47 16,.bk 48 .neq false 47 0],.k 48 (.q
 [.o [.m 49 16,.s 8 (.mov (.const (.string ⟨#[]⟩))),.ki 9 0,.m 10 49],.ret]) .skip],.o [.m 50 15,.bk 51 .neq false 50 0],.k 51 (.q [.alts [([.m 52 1,.m 53 1,.m 54 1,.nc 55 54,.fa 56 1 55,.ln 57 56,.m 58 11,
 .m 59 14,.m 62 1,.nc 63 62,.fa 64 3 63,.ln 65 64,.m 66 11,.bk 67 .add false 66 1,.m 68 15],[(.s 60 (.buildSlice 9 1 (.string ⟨#[]⟩) 1 [(0,.tmp 59)]),[.m 52 1,.m 53 1,.m 54 1,.nc 55 54,.fa 56 1 55,.ln 57
 56,.m 58 11,.m 62 1,.nc 63 62,.fa 64 3 63,.ln 65 64,.m 66 11,.bk 67 .add false 66 1,.m 68 15]),(.c3 61 133 57 58 60,[.m 52 1,.m 53 1,.m 62 1,.nc 63 62,.fa 64 3 63,.ln 65 64,.m 66 11,.bk 67 .add false 66
 1,.m 68 15]),(.s 69 (.buildSlice 2 1 (.int .i64 0) 1 [(0,.tmp 68)]),[.m 52 1,.m 53 1,.m 62 1,.nc 63 62,.fa 64 3 63,.ln 65 64,.m 66 11,.bk 67 .add false 66 1]),(.c3 70 134 65 67 69,[.m 52 1,.m 53 1]),(.nc
 71 52,[.m 53 1]),(.fa 72 1 71,[.m 53 1]),(.st 1 72 61,[.m 53 1]),(.nc 73 53,[]),(.fa 74 3 73,[]),(.st 1 74 70,[])]),([.m 52 1,.m 53 1,.m 54 1,.nc 55 54,.fa 56 1 55,.ln 57 56,.m 58 11,.m 59 14,.m 68
 15,.m 62 1,.nc 63 62,.fa 64 3 63,.ln 65 64,.m 66 11,.bk 67 .add false 66 1],[(.s 60 (.buildSlice 9 1 (.string ⟨#[]⟩) 1 [(0,.tmp 59)]),[.m 52 1,.m 53 1,.m 54 1,.nc 55 54,.fa 56 1 55,.ln 57 56,.m 58 11,.m
 68 15,.m 62 1,.nc 63 62,.fa 64 3 63,.ln 65 64,.m 66 11,.bk 67 .add false 66 1]),(.s 69 (.buildSlice 2 1 (.int .i64 0) 1 [(0,.tmp 68)]),[.m 52 1,.m 53 1,.m 54 1,.nc 55 54,.fa 56 1 55,.ln 57 56,.m 58 11,.m
 62 1,.nc 63 62,.fa 64 3 63,.ln 65 64,.m 66 11,.bk 67 .add false 66 1]),(.c3 61 133 57 58 60,[.m 52 1,.m 53 1,.m 62 1,.nc 63 62,.fa 64 3 63,.ln 65 64,.m 66 11,.bk 67 .add false 66 1]),(.c3 70 134 65 67 69,
 [.m 52 1,.m 53 1]),(.nc 71 52,[.m 53 1]),(.fa 72 1 71,[.m 53 1]),(.st 1 72 61,[.m 53 1]),(.nc 73 53,[]),(.fa 74 3 73,[]),(.st 1 74 70,[])]),([.m 52 1,.m 53 1,.m 54 1,.nc 55 54,.fa 56 1 55,.ln 57 56,.m
 58 11,.m 59 14,.m 68 15,.m 62 1,.nc 63 62,.fa 64 3 63,.ln 65 64,.m 66 11,.bk 67 .add false 66 1],[(.s 69 (.buildSlice 2 1 (.int .i64 0) 1 [(0,.tmp 68)]),[.m 52 1,.m 53 1,.m 54 1,.nc 55 54,.fa 56 1 55,.ln
 57 56,.m 58 11,.m 59 14,.m 62 1,.nc 63 62,.fa 64 3 63,.ln 65 64,.m 66 11,.bk 67 .add false 66 1]),(.s 60 (.buildSlice 9 1 (.string ⟨#[]⟩) 1 [(0,.tmp 59)]),[.m 52 1,.m 53 1,.m 54 1,.nc 55 54,.fa 56 1 55,
 .ln 57 56,.m 58 11,.m 62 1,.nc 63 62,.fa 64 3 63,.ln 65 64,.m 66 11,.bk 67 .add false 66 1]),(.c3 61 133 57 58 60,[.m 52 1,.m 53 1,.m 62 1,.nc 63 62,.fa 64 3 63,.ln 65 64,.m 66 11,.bk 67 .add false 66
 1]),(.c3 70 134 65 67 69,[.m 52 1,.m 53 1]),(.nc 71 52,[.m 53 1]),(.fa 72 1 71,[.m 53 1]),(.st 1 72 61,[.m 53 1]),(.nc 73 53,[]),(.fa 74 3 73,[]),(.st 1 74 70,[])])],.o [.m 75 1,.nc 76 75,.fa 77 3 76,
 .ln 78 77,.ll 79 78,.bk 80 .gtr false 79 6,.m 13 80]]) .skip])])]),.q [.o [.m 129 13,.nt 130 129],.k 130 (.q [.o [.s 8 (.mov (.const (.string ⟨#[]⟩))),.ki 9 0,.ki 10 0],.ret]) .skip],.o [.m 132 0,.m 133 1,.c2
 134 135 132 133,.m 131 134,.ex 135 131 0,.ex 136 131 1,.m 17 135,.m 18 136],.q [.o [.m 137 18,.bk 138 .eql false 137 0],.k 138 (.q [.o [.s 8 (.mov (.const (.string ⟨#[]⟩))),.ki 9 0,.ki 10 4],.ret]) .skip],.o
 [.m 139 17,.m 140 18,.m 8 139,.m 9 140,.ki 10 0],.ret]
def Cp_:LF:=⟨4,141,c80,[.tmp 8,.tmp 9,.tmp 10]⟩
theorem C4_:az_ Tryz.prog Tryz.f80 Cp_:=gM_
set_option maxHeartbeats 8000000 in
theorem kV_{key value:ByteArray}(hkey:b5_ key=true)(hv64:value.size≤64){T M:Nat}{root:Int}{lo:Nat}:∀(h n:Nat) (mx:Nat) (sl:List aa_) (top:Bool) (id:Int) (low high:ByteArray) (ids:List Int) (H:List Row) (B:List PB) (x:PB) (K:AV→List Row→Prop),h<n→7≤mx→mx+h≤1073741000→cO_ sl→a7_ (ag_ sl) h top id low high ids→ids.Nodup→PgS H T M root B lo mx sl→x∈B→x.id=id →
 (∀H' B',cD_ T M H B H' B'→PgS H' T M root B' lo (mx+h+1) (bN_ n sl id key value).1→K (.tup [.val (.string (bN_ n sl id key value).2.1),.val (.int .i64 (bN_ n sl id key value).2.2.1),.val (.int .i64 (bN_ n sl id key value).2.2.2)]) H') →
 callSem Tryz.prog 80 [.ptr T 1 0 0,.ptr x.b 1 0 0,.val (.string key),.val (.string value)] H K
 | h,0,_,_,_,_,_,_,_,_,_,_,_,hn,_,_,_,_,_,_,_,_,_=>absurd hn (Nat.not_lt_zero _)
 | h,n+1,mx,sl,top,id,low,high,ids,H,B,x,K,hn,hm7,hmx,ok,t,nd,g,hxB,hxid,hK=>by
  subst hxid
  obtain⟨p,hp,hpb,ho,hlf,hin⟩:=t.page
  have hxp:=g.box hxB
  rw[hp]at hxp
  have hxp:=Option.some.inj hxp
  subst hxp
  obtain⟨ents0,ck0,g0⟩:=g.pg
  have hT:=(g0.lows T (by simp)).2
  have hMl:=(g0.lows M (by simp)).2
  have gT:=g0.box
  have gM:=g0.map
  obtain⟨B1,B2,rfl⟩:=append_of_mem hxB
  have hone:(PB.all T M (B1++x::B2)).Nodup:=g0.one
  rw[(b9_ T M B1 B2 x).nodup_iff,nodup_append]at hone
  have hxn:=hone.1
  have hxT:∀l∈x.foot,l≠T∧l≠M:=fun l hl=>⟨fun e=>hone.2.2 l hl T (by simp[PB.all]) e,fun e=>hone.2.2 l hl M (by simp[PB.all]) e⟩
  simp only[PB.foot,nodup_cons,mem_cons,not_or,not_mem_nil,not_false_eq_true,and_true,nodup_nil]at hxn
  obtain⟨⟨nk,nv,nd'⟩,⟨nkv,nkd⟩,nvd⟩:=hxn
  obtain⟨a1,a2,a3,o1,p1,p2,p3⟩:=g0.pgs x hxB
  have lb:=(List.getElem?_eq_some_iff.1 o1).1
  have lk:=p1.lt
  have lv:=p2.lt
  have ld:=p3.lt
  have hsh:=d4_ hpb
  obtain⟨s1,s2,s3⟩:=hsh.small
  have hkb:c6_ x.pg.Keys=true:=by
   have:=hpb
   rw[pageB,Bool.and_eq_true]at this
   exact this.1
  have hfind:PureCall Tryz.prog 132 [.agg [.val (.bool x.pg.Leaf),a1,a2,a3],.val (.string key)] H (.tup [.val (.int .i64 (aA_ x.pg key).1),.val (.bool (aA_ x.pg key).2)]):=Go.AW.frozenR rfl (fun h=>lk_ x.pg key (by omega) hkb h) (t7_ (w6_ p1 p2 p3 1) (l0_ (n:=4) rfl))
  have c1:a1.cell=true:=p1.cell
  have c2:a2.cell=true:=p2.cell
  have c3:a3.cell=true:=p3.cell
  obtain⟨at',has,hf⟩:∃at' has,aA_ x.pg key=(at',has):=⟨_,_,rfl⟩
  rw[hf]at hfind
  refine aJ_ mixed Tryz.func80 C4_ (bi_ rfl ?_)
  simp(disch:=omega)only[Cp_,c80,o1,go_sem,seval]
  refine PureCall.call hfind ?_
  cases hl:x.pg.Leaf with
  | true =>
   cases has with
   | true =>
    obtain⟨pre2,post2,rfl,e2⟩:=p2
    have hk:at'<x.pg.Vals.length:=by
     obtain⟨_,h1,h2,_⟩:=cQ_ hpb hl
     have:=gu_ hl key
     rw[hf]at this
     have:=g7_ (xs:=x.pg.Keys) (key:=key) (Prod.mk.inj this).2.symm
     have e:=(Prod.mk.inj (hf.symm.trans (gu_ hl key))).1
     omega
    have q1:=so_ pre2.length x.pg.Vals.length at' hk
    have q3:=wp_ pre2 (x.pg.Vals.map ah_) post2 at' [.val (.string value)] (by simpa using hk)
    have q4:(pre2++(x.pg.Vals.map ah_++post2))[pre2.length+at']?=some [.val (.string x.pg.Vals[at'])]:=by rw[jK_ _ _ _ _ (by simpa using hk),getElem?_map,getElem?_eq_getElem hk];rfl
    rw[hl]at o1
    simp(disch:=first|omega|simp only[lzz0_];first|done|omega)only[go_sem,seval,o1,e2,q1,q3,q4]
    have hf2:bM_ (aC_ x.pg true at' key value)=false:=by
     have:=m8_ hpb
     exact this
    have hput:bN_ (n+1) sl x.id key value=(av_ ⟨x.id,aC_ x.pg true at' key value⟩ false sl,⟨#[]⟩,0,0):=by
     rw[dr_ hp hl,hf,cy_,dw_ ok.rise]
     simp only[hf2,if_true]
    rw[hput]at hK
    have hvl:((aC_ x.pg true at' key value).Vals.map ah_).length=(x.pg.Vals.map ah_).length:=by
     show((x.pg.Vals.set at' value).map ah_).length=_
     simp
    have hLf:(aC_ x.pg true at' key value).Leaf=true:=hl
    have e4:(x.pg.Vals.map ah_).set at' [.val (.string value)]=(x.pg.Vals.set at' value).map ah_:=by rw[map_set]
    rw[e4]
    obtain⟨gu,hgo⟩:=gH_ (Hc:=H.set x.v ⟨.ty 9,1,pre2++((x.pg.Vals.set at' value).map ah_++post2)⟩) (p':=aC_ x.pg true at' key value) (k:=x.k) (v:=x.v) (d:=x.d) (mx':=mx+h+1) g ok.rise (by omega) (by omega) (by simp) (fun l q1 q2=>am_ (fun e=>q2 (by rw[←e];simp[PB.foot])))
     ⟨_,_,_,by rw[hLf];exact(am_ (Ne.symm nv)).trans o1,p1.keep (am_ (Ne.symm nkv)),⟨pre2,post2,by rw[hvl],aq_ lv⟩,p3.keep (am_ nvd)⟩ (.inl rfl) (.inl rfl) (.inl rfl) ⟨nkv,nkd,nvd⟩
     (fun r hq=>by rw[am_ (Ne.symm nkv)]at hq;have:=g.lim x.k (Pg.mem_foot hxB (by simp[PB.foot])) r hq;omega)
     (fun r hq=>by
       have h1:=g.lim x.v (Pg.mem_foot hxB (by simp[PB.foot])) _ e2
       rw[aq_ lv]at hq
       obtain rfl:=Option.some.inj hq
       simp only[la_,length_map,ls_]at h1⊢
       omega)
     (fun r hq=>by rw[am_ nvd]at hq;have:=g.lim x.d (Pg.mem_foot hxB (by simp[PB.foot])) r hq;omega)
    exact hK _ _ hgo gu
   | false =>
    obtain⟨_,m1,m2,hkds,_⟩:=cQ_ hpb hl
    have hat:at'≤x.pg.Keys.length:=by
     have:=eV_ x.pg key
     rw[hf]at this
     exact this
    have hatv:at'≤x.pg.Vals.length:=by omega
    have hinsl:(x.pg.Keys.take at'++key::x.pg.Keys.drop at').length=x.pg.Keys.length+1:=by simp only[la_,length_take,lc_,length_drop];omega
    have hinsv:(x.pg.Vals.take at'++value::x.pg.Vals.drop at').length=x.pg.Vals.length+1:=by simp only[la_,length_take,lc_,length_drop];omega
    have hlk':((aC_ x.pg false at' key value).Keys.map ah_).length=x.pg.Keys.length+1:=by rw[length_map];exact hinsl
    have hlv':((aC_ x.pg false at' key value).Vals.map ah_).length=x.pg.Vals.length+1:=by rw[length_map];exact hinsv
    obtain⟨i1,i2,_⟩:=ok.pgs _ _ hp
    have ok1:cO_ (av_ ⟨x.id,aC_ x.pg false at' key value⟩ false sl):=ok.set ⟨i1,i2,by have:=iO_ hpb hl hkey hv64;rw[hf]at this;exact this⟩
    rw[hl]at o1
    simp(disch:=first|omega|simp only[lzz0_];first|done|omega)only[ab_,go_sem,seval,o1]
    refine⟨?_,?_,?_⟩
    ·refine bv_ (l:=x.k) (lv:=H.length) (i:=at') (mx:=mx) (xs:=x.pg.Keys) (v:=key) (p1.keep (by(simp(disch:=(first|omega|(simp only[ls_,la_,lc_,ln_];omega)))only[ab_]))) hat (fun r hq=>g.lim x.k (Pg.mem_foot hxB (by simp[PB.foot])) r (by rw[←hq];exact(ab_ lk).symm)) (by omega) (by first|((simp(disch:=(first|omega|(simp only[ls_,la_,lc_,ln_];omega)))only[as_]);done)|((simp(disch:=(first|omega|(simp only[ls_,la_,lc_,ln_];omega)))only[am_,aq_,ab_,as_,aX_,bO_,cu_]);rfl)) (by omega) ?_
     intro b1 H1 l1 hl1 hlt1 hlen1 kp1 w1 hlim1
     simp only[la_,lc_,ln_]at hl1 hlen1 kp1
     have keep1:∀l,l<H.length→l≠x.k→H1[l]?=H[l]?:=fun l q1 q2=>(kp1 l (by omega) q2).trans (ab_ q1)
     have o2:=(keep1 x.b lb nk).trans o1
     have cb1:b1.cell=true:=w1.cell
     simp(disch:=first|omega|simp only[lzz0_];first|done|omega)only[ab_,go_sem,seval,o2]
     refine bv_ (l:=x.v) (lv:=H1.length) (i:=at') (mx:=mx) (xs:=x.pg.Vals) (v:=value) (p2.keep (by first|exact keep1 _ lv (Ne.symm nkv)|exact(ab_ (by omega)).trans (keep1 _ lv (Ne.symm nkv)))) hatv (fun r hq=>g.lim x.v (Pg.mem_foot hxB (by simp[PB.foot])) r (by rw[←hq];first|exact(keep1 _ lv (Ne.symm nkv)).symm|exact((ab_ (by omega)).trans (keep1 _ lv (Ne.symm nkv))).symm)) (by omega) (by first|exact as_ rfl|(rw[kp1 _ (by omega) (by omega)];(simp(disch:=(first|omega|(simp only[ls_,la_,lc_,ln_];omega)))only[am_,aq_,ab_,as_,aX_,bO_,cu_]);done)|(rw[kp1 _ (by omega) (by omega)];(simp(disch:=(first|omega|(simp only[ls_,la_,lc_,ln_];omega)))only[am_,aq_,ab_,as_,aX_,bO_,cu_]);rfl)) (by omega) ?_
     intro b2 H2 l2 hl2 hlt2 hlen2 kp2 w2 hlim2
     try simp only[la_,lc_,ln_]at hl2 hlen2 kp2
     have keep2:∀l,l<H1.length→l≠x.v→H2[l]?=H1[l]?:=fun l q1 q2=>(kp2 l (by omega) q2).trans (by first|rfl|exact ab_ q1)
     obtain⟨pre2,post2,rfl,r2⟩:=w2
     have hlv:((x.pg.Vals.take at'++value::x.pg.Vals.drop at').map ah_).length=x.pg.Vals.length+1:=by rw[length_map];exact hinsv
     rw[hlv]at *
     have o3:=(keep2 x.b (by omega) nv).trans o2
     have v1:=w1.keep (keep2 l1 hlt1 (by omega))
     obtain⟨pre1,post1,rfl,r1⟩:=v1
     have hlk:((x.pg.Keys.take at'++key::x.pg.Keys.drop at').map ah_).length=x.pg.Keys.length+1:=by rw[length_map];exact hinsl
     have rl1:(pre1++((x.pg.Keys.take at'++key::x.pg.Keys.drop at').map ah_++post1)).length=pre1.length+(x.pg.Keys.length+1+post1.length):=by rw[gK_,hlk]
     rw[hlk]at cb1
     have zz:pre1.length+(x.pg.Keys.length+1)-pre1.length=x.pg.Keys.length+1:=by omega
     have gud:∀Hc:List Row,Hc=H2.set x.b ⟨.ty 77,4,[[.val (.bool true),.sub l1 (pre1.length+(x.pg.Keys.length+1+post1.length)) pre1.length (pre1.length+(x.pg.Keys.length+1)),.sub l2 (pre2.length+(x.pg.Vals.length+1+post2.length)) pre2.length (pre2.length+(x.pg.Vals.length+1)),a3]]⟩→PgS Hc T M root (B1++⟨x.id,aC_ x.pg false at' key value,x.b,l1,l2,x.d⟩::B2) lo (mx+h+1) (av_ ⟨x.id,aC_ x.pg false at' key value⟩ false sl)∧cD_ T M H (B1++x::B2) Hc (B1++⟨x.id,aC_ x.pg false at' key value,x.b,l1,l2,x.d⟩::B2):=by
      intro Hc hHc
      have lb2:x.b<H2.length:=by omega
      have kc:∀l,l≠x.b→Hc[l]?=H2[l]?:=fun l q=>by rw[hHc];exact am_ (Ne.symm q)
      have hHl:Hc.length=H2.length:=by rw[hHc];simp
      have nl1:l1≠x.b:=by omega
      have nl2:l2≠x.b:=by omega
      have r1':=(kc l1 nl1).trans r1
      refine gH_ (x:=x) (p':=aC_ x.pg false at' key value) (k:=l1) (v:=l2) (d:=x.d) (mx':=mx+h+1) g ok.rise (by omega) (by omega) (by omega) (fun l q1 q2=>?_) ⟨_,_,_,by rw[hHc,aq_ lb2];show _=some (⟨.ty 77,4,[[.val (.bool x.pg.Leaf),_,_,_]]⟩:Row);rw[hl],⟨pre1,post1,by rw[hlk'],r1'⟩,⟨pre2,post2,by rw[hlv'],(kc l2 nl2).trans r2⟩,p3.keep ((kc x.d (Ne.symm nd')).trans ((keep2 x.d (by omega) (Ne.symm nvd)).trans (keep1 x.d ld (Ne.symm nkd))))⟩ (by omega) (by omega) (.inl rfl) (by omega) ?_ ?_ ?_
      ·simp only[PB.foot,mem_cons,not_mem_nil,or_false,not_or]at q2
       obtain⟨u1,u2,u3,u4⟩:=q2
       exact(kc l u1).trans ((keep2 l (by omega) u3).trans (keep1 l q1 u2))
      ·intro r hq
       rw[kc l1 nl1,keep2 l1 hlt1 (by omega)]at hq
       have:=hlim1 r hq
       omega
      ·intro r hq
       rw[kc l2 nl2]at hq
       have:=hlim2 r hq
       omega
      ·intro r hq
       rw[kc x.d (Ne.symm nd'),keep2 x.d (by omega) (Ne.symm nvd),keep1 x.d ld (Ne.symm nkd)]at hq
       have:=g.lim x.d (Pg.mem_foot hxB (by simp[PB.foot])) r hq
       omega
     rw[hlk]at *
     by_cases hbig:6<x.pg.Keys.length+1
     ·have hb1:(((x.pg.Keys.length+1:Nat):Int)>6)=True:=eq_true (by omega)
      simp(disch:=first|omega|simp only[lzz0_];first|done|omega)only[am_,aq_,go_sem,seval,o3,zz,hb1,r1,rl1]
      refine callSem.at fun Hc hHc=>?_
      rw[set_set]at hHc
      obtain⟨gu,hgo⟩:=gud Hc hHc
      refine gi_ (x:=⟨x.id,aC_ x.pg false at' key value,x.b,l1,l2,x.d⟩) gu ok1 (by omega) hl (by show(x.pg.Keys.take at'++key::x.pg.Keys.drop at').length=7;omega) (by show(x.pg.Vals.take at'++value::x.pg.Vals.drop at').length=7;omega) hkds _ ?_
      intro H' B' hgo2 hpg2
      have hfl:bM_ (aC_ x.pg false at' key value)=true:=by
       show(decide (6<(x.pg.Keys.take at'++key::x.pg.Keys.drop at').length)||_)=true
       rw[hinsl,decide_eq_true hbig];rfl
      have hput:bN_ (n+1) sl x.id key value=if aI_ (ag_ (av_ ⟨x.id,aC_ x.pg false at' key value⟩ false sl)) 64=0 then(av_ ⟨x.id,(aM_ (aC_ x.pg false at' key value)).1⟩ false (av_ ⟨x.id,aC_ x.pg false at' key value⟩ false sl),⟨#[]⟩,0,4)else(up2 (av_ ⟨x.id,aC_ x.pg false at' key value⟩ false sl) x.id (aC_ x.pg false at' key value),(aM_ (aC_ x.pg false at' key value)).2.2,aI_ (ag_ (av_ ⟨x.id,aC_ x.pg false at' key value⟩ false sl)) 64,0):=by
       rw[dr_ hp hl,hf,cy_,dw_ ok.rise]
       simp only[hfl,Bool.true_eq_false,if_false]
      rw[hput]at hK
      by_cases hz:aI_ (ag_ (av_ ⟨x.id,aC_ x.pg false at' key value⟩ false sl)) 64=0
      ·rw[if_pos hz]at hK hpg2
       simp(disch:=first|omega|simp only[lzz0_];first|done|omega)only[go_sem,seval,hz]
       exact hK _ _ (hgo.trans hgo2) hpg2
      ·rw[if_neg hz]at hK hpg2
       simp(disch:=first|omega|simp only[lzz0_];first|done|omega)only[go_sem,seval,hz]
       exact hK _ _ (hgo.trans hgo2) hpg2
     ·have hb1:(((x.pg.Keys.length+1:Nat):Int)>6)=False:=eq_false (by omega)
      simp(disch:=first|omega|simp only[lzz0_];first|done|omega)only[am_,aq_,go_sem,seval,o3,zz,hb1,r1,rl1]
      rw[set_set]
      obtain⟨gu,hgo⟩:=gud _ rfl
      have hfl:bM_ (aC_ x.pg false at' key value)=false:=by
       show(decide (6<(x.pg.Keys.take at'++key::x.pg.Keys.drop at').length)||decide (6<x.pg.Kids.length))=false
       rw[hinsl,decide_eq_false hbig,hkds];rfl
      have hput:bN_ (n+1) sl x.id key value=(av_ ⟨x.id,aC_ x.pg false at' key value⟩ false sl,⟨#[]⟩,0,0):=by
       rw[dr_ hp hl,hf,cy_,dw_ ok.rise]
       simp only[hfl,if_true]
      rw[hput]at hK
      exact hK _ _ hgo gu
    ·refine bv_ (l:=x.k) (lv:=H.length) (i:=at') (mx:=mx) (xs:=x.pg.Keys) (v:=key) (p1.keep (by(simp(disch:=(first|omega|(simp only[ls_,la_,lc_,ln_];omega)))only[ab_]))) hat (fun r hq=>g.lim x.k (Pg.mem_foot hxB (by simp[PB.foot])) r (by rw[←hq];exact(ab_ lk).symm)) (by omega) (by first|((simp(disch:=(first|omega|(simp only[ls_,la_,lc_,ln_];omega)))only[as_]);done)|((simp(disch:=(first|omega|(simp only[ls_,la_,lc_,ln_];omega)))only[am_,aq_,ab_,as_,aX_,bO_,cu_]);rfl)) (by omega) ?_
     intro b1 H1 l1 hl1 hlt1 hlen1 kp1 w1 hlim1
     simp only[la_,lc_,ln_]at hl1 hlen1 kp1
     have keep1:∀l,l<H.length→l≠x.k→H1[l]?=H[l]?:=fun l q1 q2=>(kp1 l (by omega) q2).trans (ab_ q1)
     have o2:=(keep1 x.b lb nk).trans o1
     have cb1:b1.cell=true:=w1.cell
     simp(disch:=first|omega|simp only[lzz0_];first|done|omega)only[go_sem,seval,o2]
     refine bv_ (l:=x.v) (lv:=H.length+1) (i:=at') (mx:=mx) (xs:=x.pg.Vals) (v:=value) (p2.keep (by first|exact keep1 _ lv (Ne.symm nkv)|exact(ab_ (by omega)).trans (keep1 _ lv (Ne.symm nkv)))) hatv (fun r hq=>g.lim x.v (Pg.mem_foot hxB (by simp[PB.foot])) r (by rw[←hq];first|exact(keep1 _ lv (Ne.symm nkv)).symm|exact((ab_ (by omega)).trans (keep1 _ lv (Ne.symm nkv))).symm)) (by omega) (by first|exact as_ rfl|(rw[kp1 _ (by omega) (by omega)];(simp(disch:=(first|omega|(simp only[ls_,la_,lc_,ln_];omega)))only[aX_]);done)|(rw[kp1 _ (by omega) (by omega)];(simp(disch:=(first|omega|(simp only[ls_,la_,lc_,ln_];omega)))only[am_,aq_,ab_,as_,aX_,bO_,cu_]);rfl)) (by omega) ?_
     intro b2 H2 l2 hl2 hlt2 hlen2 kp2 w2 hlim2
     try simp only[la_,lc_,ln_]at hl2 hlen2 kp2
     have keep2:∀l,l<H1.length→l≠x.v→H2[l]?=H1[l]?:=fun l q1 q2=>(kp2 l (by omega) q2).trans (by first|rfl|exact ab_ q1)
     obtain⟨pre2,post2,rfl,r2⟩:=w2
     have hlv:((x.pg.Vals.take at'++value::x.pg.Vals.drop at').map ah_).length=x.pg.Vals.length+1:=by rw[length_map];exact hinsv
     rw[hlv]at *
     have o3:=(keep2 x.b (by omega) nv).trans o2
     have v1:=w1.keep (keep2 l1 hlt1 (by omega))
     obtain⟨pre1,post1,rfl,r1⟩:=v1
     have hlk:((x.pg.Keys.take at'++key::x.pg.Keys.drop at').map ah_).length=x.pg.Keys.length+1:=by rw[length_map];exact hinsl
     have rl1:(pre1++((x.pg.Keys.take at'++key::x.pg.Keys.drop at').map ah_++post1)).length=pre1.length+(x.pg.Keys.length+1+post1.length):=by rw[gK_,hlk]
     rw[hlk]at cb1
     have zz:pre1.length+(x.pg.Keys.length+1)-pre1.length=x.pg.Keys.length+1:=by omega
     have gud:∀Hc:List Row,Hc=H2.set x.b ⟨.ty 77,4,[[.val (.bool true),.sub l1 (pre1.length+(x.pg.Keys.length+1+post1.length)) pre1.length (pre1.length+(x.pg.Keys.length+1)),.sub l2 (pre2.length+(x.pg.Vals.length+1+post2.length)) pre2.length (pre2.length+(x.pg.Vals.length+1)),a3]]⟩→PgS Hc T M root (B1++⟨x.id,aC_ x.pg false at' key value,x.b,l1,l2,x.d⟩::B2) lo (mx+h+1) (av_ ⟨x.id,aC_ x.pg false at' key value⟩ false sl)∧cD_ T M H (B1++x::B2) Hc (B1++⟨x.id,aC_ x.pg false at' key value,x.b,l1,l2,x.d⟩::B2):=by
      intro Hc hHc
      have lb2:x.b<H2.length:=by omega
      have kc:∀l,l≠x.b→Hc[l]?=H2[l]?:=fun l q=>by rw[hHc];exact am_ (Ne.symm q)
      have hHl:Hc.length=H2.length:=by rw[hHc];simp
      have nl1:l1≠x.b:=by omega
      have nl2:l2≠x.b:=by omega
      have r1':=(kc l1 nl1).trans r1
      refine gH_ (x:=x) (p':=aC_ x.pg false at' key value) (k:=l1) (v:=l2) (d:=x.d) (mx':=mx+h+1) g ok.rise (by omega) (by omega) (by omega) (fun l q1 q2=>?_) ⟨_,_,_,by rw[hHc,aq_ lb2];show _=some (⟨.ty 77,4,[[.val (.bool x.pg.Leaf),_,_,_]]⟩:Row);rw[hl],⟨pre1,post1,by rw[hlk'],r1'⟩,⟨pre2,post2,by rw[hlv'],(kc l2 nl2).trans r2⟩,p3.keep ((kc x.d (Ne.symm nd')).trans ((keep2 x.d (by omega) (Ne.symm nvd)).trans (keep1 x.d ld (Ne.symm nkd))))⟩ (by omega) (by omega) (.inl rfl) (by omega) ?_ ?_ ?_
      ·simp only[PB.foot,mem_cons,not_mem_nil,or_false,not_or]at q2
       obtain⟨u1,u2,u3,u4⟩:=q2
       exact(kc l u1).trans ((keep2 l (by omega) u3).trans (keep1 l q1 u2))
      ·intro r hq
       rw[kc l1 nl1,keep2 l1 hlt1 (by omega)]at hq
       have:=hlim1 r hq
       omega
      ·intro r hq
       rw[kc l2 nl2]at hq
       have:=hlim2 r hq
       omega
      ·intro r hq
       rw[kc x.d (Ne.symm nd'),keep2 x.d (by omega) (Ne.symm nvd),keep1 x.d ld (Ne.symm nkd)]at hq
       have:=g.lim x.d (Pg.mem_foot hxB (by simp[PB.foot])) r hq
       omega
     rw[hlk]at *
     by_cases hbig:6<x.pg.Keys.length+1
     ·have hb1:(((x.pg.Keys.length+1:Nat):Int)>6)=True:=eq_true (by omega)
      simp(disch:=first|omega|simp only[lzz0_];first|done|omega)only[am_,aq_,go_sem,seval,o3,zz,hb1,r1,rl1]
      refine callSem.at fun Hc hHc=>?_
      rw[set_set]at hHc
      obtain⟨gu,hgo⟩:=gud Hc hHc
      refine gi_ (x:=⟨x.id,aC_ x.pg false at' key value,x.b,l1,l2,x.d⟩) gu ok1 (by omega) hl (by show(x.pg.Keys.take at'++key::x.pg.Keys.drop at').length=7;omega) (by show(x.pg.Vals.take at'++value::x.pg.Vals.drop at').length=7;omega) hkds _ ?_
      intro H' B' hgo2 hpg2
      have hfl:bM_ (aC_ x.pg false at' key value)=true:=by
       show(decide (6<(x.pg.Keys.take at'++key::x.pg.Keys.drop at').length)||_)=true
       rw[hinsl,decide_eq_true hbig];rfl
      have hput:bN_ (n+1) sl x.id key value=if aI_ (ag_ (av_ ⟨x.id,aC_ x.pg false at' key value⟩ false sl)) 64=0 then(av_ ⟨x.id,(aM_ (aC_ x.pg false at' key value)).1⟩ false (av_ ⟨x.id,aC_ x.pg false at' key value⟩ false sl),⟨#[]⟩,0,4)else(up2 (av_ ⟨x.id,aC_ x.pg false at' key value⟩ false sl) x.id (aC_ x.pg false at' key value),(aM_ (aC_ x.pg false at' key value)).2.2,aI_ (ag_ (av_ ⟨x.id,aC_ x.pg false at' key value⟩ false sl)) 64,0):=by
       rw[dr_ hp hl,hf,cy_,dw_ ok.rise]
       simp only[hfl,Bool.true_eq_false,if_false]
      rw[hput]at hK
      by_cases hz:aI_ (ag_ (av_ ⟨x.id,aC_ x.pg false at' key value⟩ false sl)) 64=0
      ·rw[if_pos hz]at hK hpg2
       simp(disch:=first|omega|simp only[lzz0_];first|done|omega)only[go_sem,seval,hz]
       exact hK _ _ (hgo.trans hgo2) hpg2
      ·rw[if_neg hz]at hK hpg2
       simp(disch:=first|omega|simp only[lzz0_];first|done|omega)only[go_sem,seval,hz]
       exact hK _ _ (hgo.trans hgo2) hpg2
     ·have hb1:(((x.pg.Keys.length+1:Nat):Int)>6)=False:=eq_false (by omega)
      simp(disch:=first|omega|simp only[lzz0_];first|done|omega)only[am_,aq_,go_sem,seval,o3,zz,hb1,r1,rl1]
      rw[set_set]
      obtain⟨gu,hgo⟩:=gud _ rfl
      have hfl:bM_ (aC_ x.pg false at' key value)=false:=by
       show(decide (6<(x.pg.Keys.take at'++key::x.pg.Keys.drop at').length)||decide (6<x.pg.Kids.length))=false
       rw[hinsl,decide_eq_false hbig,hkds];rfl
      have hput:bN_ (n+1) sl x.id key value=(av_ ⟨x.id,aC_ x.pg false at' key value⟩ false sl,⟨#[]⟩,0,0):=by
       rw[dr_ hp hl,hf,cy_,dw_ ok.rise]
       simp only[hfl,if_true]
      rw[hput]at hK
      exact hK _ _ hgo gu
    ·refine bv_ (l:=x.k) (lv:=H.length+1) (i:=at') (mx:=mx) (xs:=x.pg.Keys) (v:=key) (p1.keep (by(simp(disch:=(first|omega|(simp only[ls_,la_,lc_,ln_];omega)))only[ab_]))) hat (fun r hq=>g.lim x.k (Pg.mem_foot hxB (by simp[PB.foot])) r (by rw[←hq];exact(ab_ lk).symm)) (by omega) (by first|((simp(disch:=(first|omega|(simp only[ls_,la_,lc_,ln_];omega)))only[aX_]);done)|((simp(disch:=(first|omega|(simp only[ls_,la_,lc_,ln_];omega)))only[am_,aq_,ab_,as_,aX_,bO_,cu_]);rfl)) (by omega) ?_
     intro b1 H1 l1 hl1 hlt1 hlen1 kp1 w1 hlim1
     simp only[la_,lc_,ln_]at hl1 hlen1 kp1
     have keep1:∀l,l<H.length→l≠x.k→H1[l]?=H[l]?:=fun l q1 q2=>(kp1 l (by omega) q2).trans (ab_ q1)
     have o2:=(keep1 x.b lb nk).trans o1
     have cb1:b1.cell=true:=w1.cell
     simp(disch:=first|omega|simp only[lzz0_];first|done|omega)only[go_sem,seval,o2]
     refine bv_ (l:=x.v) (lv:=H.length) (i:=at') (mx:=mx) (xs:=x.pg.Vals) (v:=value) (p2.keep (by first|exact keep1 _ lv (Ne.symm nkv)|exact(ab_ (by omega)).trans (keep1 _ lv (Ne.symm nkv)))) hatv (fun r hq=>g.lim x.v (Pg.mem_foot hxB (by simp[PB.foot])) r (by rw[←hq];first|exact(keep1 _ lv (Ne.symm nkv)).symm|exact((ab_ (by omega)).trans (keep1 _ lv (Ne.symm nkv))).symm)) (by omega) (by first|exact as_ rfl|(rw[kp1 _ (by omega) (by omega)];(simp(disch:=(first|omega|(simp only[ls_,la_,lc_,ln_];omega)))only[as_]);done)|(rw[kp1 _ (by omega) (by omega)];(simp(disch:=(first|omega|(simp only[ls_,la_,lc_,ln_];omega)))only[am_,aq_,ab_,as_,aX_,bO_,cu_]);rfl)) (by omega) ?_
     intro b2 H2 l2 hl2 hlt2 hlen2 kp2 w2 hlim2
     try simp only[la_,lc_,ln_]at hl2 hlen2 kp2
     have keep2:∀l,l<H1.length→l≠x.v→H2[l]?=H1[l]?:=fun l q1 q2=>(kp2 l (by omega) q2).trans (by first|rfl|exact ab_ q1)
     obtain⟨pre2,post2,rfl,r2⟩:=w2
     have hlv:((x.pg.Vals.take at'++value::x.pg.Vals.drop at').map ah_).length=x.pg.Vals.length+1:=by rw[length_map];exact hinsv
     rw[hlv]at *
     have o3:=(keep2 x.b (by omega) nv).trans o2
     have v1:=w1.keep (keep2 l1 hlt1 (by omega))
     obtain⟨pre1,post1,rfl,r1⟩:=v1
     have hlk:((x.pg.Keys.take at'++key::x.pg.Keys.drop at').map ah_).length=x.pg.Keys.length+1:=by rw[length_map];exact hinsl
     have rl1:(pre1++((x.pg.Keys.take at'++key::x.pg.Keys.drop at').map ah_++post1)).length=pre1.length+(x.pg.Keys.length+1+post1.length):=by rw[gK_,hlk]
     rw[hlk]at cb1
     have zz:pre1.length+(x.pg.Keys.length+1)-pre1.length=x.pg.Keys.length+1:=by omega
     have gud:∀Hc:List Row,Hc=H2.set x.b ⟨.ty 77,4,[[.val (.bool true),.sub l1 (pre1.length+(x.pg.Keys.length+1+post1.length)) pre1.length (pre1.length+(x.pg.Keys.length+1)),.sub l2 (pre2.length+(x.pg.Vals.length+1+post2.length)) pre2.length (pre2.length+(x.pg.Vals.length+1)),a3]]⟩→PgS Hc T M root (B1++⟨x.id,aC_ x.pg false at' key value,x.b,l1,l2,x.d⟩::B2) lo (mx+h+1) (av_ ⟨x.id,aC_ x.pg false at' key value⟩ false sl)∧cD_ T M H (B1++x::B2) Hc (B1++⟨x.id,aC_ x.pg false at' key value,x.b,l1,l2,x.d⟩::B2):=by
      intro Hc hHc
      have lb2:x.b<H2.length:=by omega
      have kc:∀l,l≠x.b→Hc[l]?=H2[l]?:=fun l q=>by rw[hHc];exact am_ (Ne.symm q)
      have hHl:Hc.length=H2.length:=by rw[hHc];simp
      have nl1:l1≠x.b:=by omega
      have nl2:l2≠x.b:=by omega
      have r1':=(kc l1 nl1).trans r1
      refine gH_ (x:=x) (p':=aC_ x.pg false at' key value) (k:=l1) (v:=l2) (d:=x.d) (mx':=mx+h+1) g ok.rise (by omega) (by omega) (by omega) (fun l q1 q2=>?_) ⟨_,_,_,by rw[hHc,aq_ lb2];show _=some (⟨.ty 77,4,[[.val (.bool x.pg.Leaf),_,_,_]]⟩:Row);rw[hl],⟨pre1,post1,by rw[hlk'],r1'⟩,⟨pre2,post2,by rw[hlv'],(kc l2 nl2).trans r2⟩,p3.keep ((kc x.d (Ne.symm nd')).trans ((keep2 x.d (by omega) (Ne.symm nvd)).trans (keep1 x.d ld (Ne.symm nkd))))⟩ (by omega) (by omega) (.inl rfl) (by omega) ?_ ?_ ?_
      ·simp only[PB.foot,mem_cons,not_mem_nil,or_false,not_or]at q2
       obtain⟨u1,u2,u3,u4⟩:=q2
       exact(kc l u1).trans ((keep2 l (by omega) u3).trans (keep1 l q1 u2))
      ·intro r hq
       rw[kc l1 nl1,keep2 l1 hlt1 (by omega)]at hq
       have:=hlim1 r hq
       omega
      ·intro r hq
       rw[kc l2 nl2]at hq
       have:=hlim2 r hq
       omega
      ·intro r hq
       rw[kc x.d (Ne.symm nd'),keep2 x.d (by omega) (Ne.symm nvd),keep1 x.d ld (Ne.symm nkd)]at hq
       have:=g.lim x.d (Pg.mem_foot hxB (by simp[PB.foot])) r hq
       omega
     rw[hlk]at *
     by_cases hbig:6<x.pg.Keys.length+1
     ·have hb1:(((x.pg.Keys.length+1:Nat):Int)>6)=True:=eq_true (by omega)
      simp(disch:=first|omega|simp only[lzz0_];first|done|omega)only[am_,aq_,go_sem,seval,o3,zz,hb1,r1,rl1]
      refine callSem.at fun Hc hHc=>?_
      rw[set_set]at hHc
      obtain⟨gu,hgo⟩:=gud Hc hHc
      refine gi_ (x:=⟨x.id,aC_ x.pg false at' key value,x.b,l1,l2,x.d⟩) gu ok1 (by omega) hl (by show(x.pg.Keys.take at'++key::x.pg.Keys.drop at').length=7;omega) (by show(x.pg.Vals.take at'++value::x.pg.Vals.drop at').length=7;omega) hkds _ ?_
      intro H' B' hgo2 hpg2
      have hfl:bM_ (aC_ x.pg false at' key value)=true:=by
       show(decide (6<(x.pg.Keys.take at'++key::x.pg.Keys.drop at').length)||_)=true
       rw[hinsl,decide_eq_true hbig];rfl
      have hput:bN_ (n+1) sl x.id key value=if aI_ (ag_ (av_ ⟨x.id,aC_ x.pg false at' key value⟩ false sl)) 64=0 then(av_ ⟨x.id,(aM_ (aC_ x.pg false at' key value)).1⟩ false (av_ ⟨x.id,aC_ x.pg false at' key value⟩ false sl),⟨#[]⟩,0,4)else(up2 (av_ ⟨x.id,aC_ x.pg false at' key value⟩ false sl) x.id (aC_ x.pg false at' key value),(aM_ (aC_ x.pg false at' key value)).2.2,aI_ (ag_ (av_ ⟨x.id,aC_ x.pg false at' key value⟩ false sl)) 64,0):=by
       rw[dr_ hp hl,hf,cy_,dw_ ok.rise]
       simp only[hfl,Bool.true_eq_false,if_false]
      rw[hput]at hK
      by_cases hz:aI_ (ag_ (av_ ⟨x.id,aC_ x.pg false at' key value⟩ false sl)) 64=0
      ·rw[if_pos hz]at hK hpg2
       simp(disch:=first|omega|simp only[lzz0_];first|done|omega)only[go_sem,seval,hz]
       exact hK _ _ (hgo.trans hgo2) hpg2
      ·rw[if_neg hz]at hK hpg2
       simp(disch:=first|omega|simp only[lzz0_];first|done|omega)only[go_sem,seval,hz]
       exact hK _ _ (hgo.trans hgo2) hpg2
     ·have hb1:(((x.pg.Keys.length+1:Nat):Int)>6)=False:=eq_false (by omega)
      simp(disch:=first|omega|simp only[lzz0_];first|done|omega)only[am_,aq_,go_sem,seval,o3,zz,hb1,r1,rl1]
      rw[set_set]
      obtain⟨gu,hgo⟩:=gud _ rfl
      have hfl:bM_ (aC_ x.pg false at' key value)=false:=by
       show(decide (6<(x.pg.Keys.take at'++key::x.pg.Keys.drop at').length)||decide (6<x.pg.Kids.length))=false
       rw[hinsl,decide_eq_false hbig,hkds];rfl
      have hput:bN_ (n+1) sl x.id key value=(av_ ⟨x.id,aC_ x.pg false at' key value⟩ false sl,⟨#[]⟩,0,0):=by
       rw[dr_ hp hl,hf,cy_,dw_ ok.rise]
       simp only[hfl,if_true]
      rw[hput]at hK
      exact hK _ _ hgo gu
  | false =>
   cases h with
   | zero=>rw[hlf]at hl;cases hl
   | succ h =>
   obtain⟨_,_,hlt,m,klo,khi,tk,ndm,hnm,hsub⟩:=t.kid nd hp key
   rw[hf]at tk hlt
   have hgd:x.pg.Kids.getD at' 0=x.pg.Kids[at']:=by rw[getD_eq_getElem?_getD,getElem?_eq_getElem hlt];rfl
   simp only at tk hlt
   obtain⟨pk,hpk,_⟩:=tk.page
   obtain⟨pre3,post3,rfl,e3⟩:=p3
   have q1:=so_ pre3.length x.pg.Kids.length at' hlt
   have q2:(pre3++(x.pg.Kids.map aB_++post3))[pre3.length+at']?=some [.val (.int .i64 x.pg.Kids[at'])]:=by rw[jK_ _ _ _ _ (by simpa using hlt),getElem?_map,getElem?_eq_getElem hlt];rfl
   rw[hgd]at tk hpk
   have hfd:=g0.find x.pg.Kids[at']
   have hsf:=g.same x.pg.Kids[at']
   rw[g8_,hpk]at hsf
   cases hz:(B1++x::B2).find? (fun x_1=>x_1.id==x.pg.Kids[at'])with
   | none=>rw[hz]at hsf;cases hsf
   | some z =>
   rw[hz]at hfd
   have hzB:=mem_of_find?_eq_some hz
   have hzid:z.id=x.pg.Kids[at']:=by simpa using find?_some hz
   rw[hl]at o1
   simp only[Option.map_some]at hfd
   simp(disch:=first|omega|simp only[lzz0_];first|done|omega)only[go_sem,seval,o1,gT,gM,e3,q1,q2,hfd,Option.getD_some]
   refine kV_ hkey hv64 h n mx sl false _ klo khi m H (B1++x::B2) z _ (by omega) hm7 (by omega) ok tk ndm g hzB hzid ?_
   intro G B' hgo hpg
   obtain⟨hgr,hsep⟩:=f5_ hkey hv64 h n sl false _ klo khi m (by omega) ok tk ndm
   obtain⟨sl',sep,new,code,hr⟩:∃sl' sep new code,bN_ n sl x.pg.Kids[at'] key value=(sl',sep,new,code):=⟨_,_,_,_,rfl⟩
   have hput:=is_ (n:=n) (value:=value) (sl':=sl') (sep:=sep) (new:=new) (code:=code) hp hl (by rw[hf,hgd];exact hr)
   rw[hf]at hput
   rw[hput]at hK
   rw[hr]at hpg hgr hsep
   rw[hr]
   simp only at hpg hgr hsep hK
   clear hput hfd hsf hz q1 q2 e3
   by_cases hc:code=0
   ·by_cases hn0:new=0
    ·rw[if_neg (by simpa using hc),if_pos hn0]at hK
     simp(disch:=first|omega|simp only[lzz0_];first|done|omega)only[go_sem,seval,hc,hn0]
     exact hK _ _ hgo (hpg.mono (by omega))
    ·rw[if_neg (by simpa using hc),if_neg hn0]at hK
     obtain⟨y,hyB,hyid,hyb⟩:=hgo.keeps x hxB
     obtain⟨D1,D2,rfl⟩:=append_of_mem hyB
     have hpx:ag_ sl' x.id=some x.pg:=(hgr.kept x.id hnm (by rw[hp];rfl)).trans hp
     have hyp:=hpg.box hyB
     rw[hyid,hpx]at hyp
     have hyp:x.pg=y.pg:=Option.some.inj hyp
     rw[hyp]at hpb hl hlt hK hf s1 s2 s3
     rw[←hyid]at hK
     rw[←hyb]
     have g1:=hpg
     have ok1:=hgr.ok
     obtain⟨ents1,ck1,g2⟩:=g1.pg
     have hone1:(PB.all T M (D1++y::D2)).Nodup:=g2.one
     rw[(b9_ T M D1 D2 y).nodup_iff,nodup_append]at hone1
     have hyn:=hone1.1
     clear nk nv nd' nvd nkv nkd lb lk lv ld o1 p1 p2 c1 c2 c3
     simp only[PB.foot,nodup_cons,mem_cons,not_or,not_mem_nil,not_false_eq_true,and_true,nodup_nil]at hyn
     obtain⟨⟨nk,nv,nd'⟩,⟨nkv,nkd⟩,nvd⟩:=hyn
     obtain⟨a1,a2,a3,o1,p1,p2,p3⟩:=g2.pgs y hyB
     have lb:=(List.getElem?_eq_some_iff.1 o1).1
     have lk:=p1.lt
     have lv:=p2.lt
     have ld:=p3.lt
     have c1:a1.cell=true:=p1.cell
     have c2:a2.cell=true:=p2.cell
     have c3:a3.cell=true:=p3.cell
     obtain⟨_,m0,m1,m2,hvals,_⟩:=dq_ hpb hl
     have hly:=hl
     have haty:at'≤y.pg.Keys.length:=by omega
     have hatd:at'+1≤y.pg.Kids.length:=by omega
     have hcast:(at':Int)+1=((at'+1:Nat):Int):=by omega
     have hinsl:(y.pg.Keys.take at'++sep::y.pg.Keys.drop at').length=y.pg.Keys.length+1:=by simp only[la_,length_take,lc_,length_drop];omega
     have hinsd:(y.pg.Kids.take (at'+1)++new::y.pg.Kids.drop (at'+1)).length=y.pg.Kids.length+1:=by simp only[la_,length_take,lc_,length_drop];omega
     have hlk':((aV_ y.pg at' sep new).Keys.map ah_).length=y.pg.Keys.length+1:=by rw[length_map];exact hinsl
     have hlv':((aV_ y.pg at' sep new).Kids.map aB_).length=y.pg.Kids.length+1:=by rw[length_map];exact hinsd
     obtain⟨i1,i2,_⟩:=ok1.pgs _ _ (by rw[←hyid]at hpx;exact hpx)
     have ok2:cO_ (av_ ⟨y.id,aV_ y.pg at' sep new⟩ false sl'):=ok1.set ⟨i1,i2,by have:=jn_ hpb hl key (hsep hn0) new;rw[hf]at this;exact this⟩
     rw[hly]at o1
     simp(disch:=first|omega|simp only[lzz0_];first|done|omega)only[ab_,go_sem,seval,hc,hn0,o1]
     refine⟨?_,?_,?_⟩
     ·refine bv_ (l:=y.k) (lv:=G.length) (i:=at') (mx:=mx+h+1) (xs:=y.pg.Keys) (v:=sep) (p1.keep (by(simp(disch:=(first|omega|(simp only[ls_,la_,lc_,ln_];omega)))only[ab_]))) haty (fun r hq=>g1.lim y.k (Pg.mem_foot hyB (by simp[PB.foot])) r (by rw[←hq];exact(ab_ lk).symm)) (by omega) (by first|((simp(disch:=(first|omega|(simp only[ls_,la_,lc_,ln_];omega)))only[as_]);done)|((simp(disch:=(first|omega|(simp only[ls_,la_,lc_,ln_];omega)))only[am_,aq_,ab_,as_,aX_,bO_,cu_]);rfl)) (by omega) ?_
      intro b1 H1 l1 hl1 hlt1 hlen1 kp1 w1 hlim1
      simp only[la_,lc_,ln_]at hl1 hlen1 kp1
      have keep1:∀l,l<G.length→l≠y.k→H1[l]?=G[l]?:=fun l q1 q2=>(kp1 l (by omega) q2).trans (ab_ q1)
      have o2:=(keep1 y.b lb nk).trans o1
      have cb1:b1.cell=true:=w1.cell
      simp(disch:=first|omega|simp only[lzz0_];first|done|omega)only[ab_,go_sem,seval,o2,hcast,aw_]
      refine ep_ (l:=y.d) (lv:=H1.length) (i:=at'+1) (mx:=mx+h+1) (xs:=y.pg.Kids) (v:=new) (p3.keep (by first|exact keep1 _ ld (Ne.symm nkd)|exact(ab_ (by omega)).trans (keep1 _ ld (Ne.symm nkd)))) hatd (fun r hq=>g1.lim y.d (Pg.mem_foot hyB (by simp[PB.foot])) r (by rw[←hq];first|exact(keep1 _ ld (Ne.symm nkd)).symm|exact((ab_ (by omega)).trans (keep1 _ ld (Ne.symm nkd))).symm)) (by omega) (by first|exact as_ rfl|(rw[kp1 _ (by omega) (by omega)];(simp(disch:=(first|omega|(simp only[ls_,la_,lc_,ln_];omega)))only[am_,aq_,ab_,as_,aX_,bO_,cu_]);done)|(rw[kp1 _ (by omega) (by omega)];(simp(disch:=(first|omega|(simp only[ls_,la_,lc_,ln_];omega)))only[am_,aq_,ab_,as_,aX_,bO_,cu_]);rfl)) (by omega) ?_
      intro b2 H2 l2 hl2 hlt2 hlen2 kp2 w2 hlim2
      try simp only[la_,lc_,ln_]at hl2 hlen2 kp2
      have keep2:∀l,l<H1.length→l≠y.d→H2[l]?=H1[l]?:=fun l q1 q2=>(kp2 l (by omega) q2).trans (by first|rfl|exact ab_ q1)
      obtain⟨pre2,post2,rfl,r2⟩:=w2
      have hlv:((y.pg.Kids.take (at'+1)++new::y.pg.Kids.drop (at'+1)).map aB_).length=y.pg.Kids.length+1:=by rw[length_map];exact hinsd
      rw[hlv]at *
      have o3:=(keep2 y.b (by omega) nd').trans o2
      have v1:=w1.keep (keep2 l1 hlt1 (by omega))
      obtain⟨pre1,post1,rfl,r1⟩:=v1
      have hlk:((y.pg.Keys.take at'++sep::y.pg.Keys.drop at').map ah_).length=y.pg.Keys.length+1:=by rw[length_map];exact hinsl
      have rl2:(pre2++((y.pg.Kids.take (at'+1)++new::y.pg.Kids.drop (at'+1)).map aB_++post2)).length=pre2.length+(y.pg.Kids.length+1+post2.length):=by rw[gK_];simp only[length_map];rw[hinsd]
      rw[hlk]at cb1
      have zz:pre2.length+(y.pg.Kids.length+1)-pre2.length=y.pg.Kids.length+1:=by omega
      have gud:∀Hc:List Row,Hc=H2.set y.b ⟨.ty 77,4,[[.val (.bool false),.sub l1 (pre1.length+(y.pg.Keys.length+1+post1.length)) pre1.length (pre1.length+(y.pg.Keys.length+1)),a2,.sub l2 (pre2.length+(y.pg.Kids.length+1+post2.length)) pre2.length (pre2.length+(y.pg.Kids.length+1))]]⟩→PgS Hc T M root (D1++⟨y.id,aV_ y.pg at' sep new,y.b,l1,y.v,l2⟩::D2) lo (mx+(h+1)+1) (av_ ⟨y.id,aV_ y.pg at' sep new⟩ false sl')∧cD_ T M G (D1++y::D2) Hc (D1++⟨y.id,aV_ y.pg at' sep new,y.b,l1,y.v,l2⟩::D2):=by
       intro Hc hHc
       have lb2:y.b<H2.length:=by omega
       have kc:∀l,l≠y.b→Hc[l]?=H2[l]?:=fun l q=>by rw[hHc];exact am_ (Ne.symm q)
       have hHl:Hc.length=H2.length:=by rw[hHc];simp
       have nl1:l1≠y.b:=by omega
       have nl2:l2≠y.b:=by omega
       have r1':=(kc l1 nl1).trans r1
       refine gH_ (x:=y) (p':=aV_ y.pg at' sep new) (k:=l1) (v:=y.v) (d:=l2) (mx':=mx+(h+1)+1) g1 ok1.rise (by omega) (by omega) (by omega) (fun l q1 q2=>?_) ⟨_,_,_,by rw[hHc,aq_ lb2];show _=some (⟨.ty 77,4,[[.val (.bool y.pg.Leaf),_,_,_]]⟩:Row);rw[hly],⟨pre1,post1,by rw[hlk'],r1'⟩,p2.keep ((kc y.v (Ne.symm nv)).trans ((keep2 y.v (by omega) nvd).trans (keep1 y.v lv (Ne.symm nkv)))),⟨pre2,post2,by rw[hlv'],(kc l2 nl2).trans r2⟩⟩ (by omega) (.inl rfl) (by omega) (by omega) ?_ ?_ ?_
       ·simp only[PB.foot,mem_cons,not_mem_nil,or_false,not_or]at q2
        obtain⟨u1,u2,u3,u4⟩:=q2
        exact(kc l u1).trans ((keep2 l (by omega) u4).trans (keep1 l q1 u2))
       ·intro r hq
        rw[kc l1 nl1,keep2 l1 hlt1 (by omega)]at hq
        have:=hlim1 r hq
        omega
       ·intro r hq
        rw[kc y.v (Ne.symm nv),keep2 y.v (by omega) nvd,keep1 y.v lv (Ne.symm nkv)]at hq
        have:=g1.lim y.v (Pg.mem_foot hyB (by simp[PB.foot])) r hq
        omega
       ·intro r hq
        rw[kc l2 nl2]at hq
        have:=hlim2 r hq
        omega
      rw[hlk]at *
      by_cases hbig:6<y.pg.Kids.length+1
      ·have hb1:(((y.pg.Kids.length+1:Nat):Int)>6)=True:=eq_true (by omega)
       simp(disch:=first|omega|simp only[lzz0_];first|done|omega)only[am_,aq_,go_sem,seval,o3,zz,hb1,r2,rl2]
       refine callSem.at fun Hc hHc=>?_
       rw[set_set]at hHc
       obtain⟨gu,hgo2⟩:=gud Hc hHc
       refine gr_ (x:=⟨y.id,aV_ y.pg at' sep new,y.b,l1,y.v,l2⟩) gu ok2 (by omega) hly (by show(y.pg.Keys.take at'++sep::y.pg.Keys.drop at').length=6;omega) (by show(y.pg.Kids.take (at'+1)++new::y.pg.Kids.drop (at'+1)).length=7;omega) hvals _ ?_
       intro H' B' hgo3 hpg3
       have hfl:bM_ (aV_ y.pg at' sep new)=true:=by
        show(_||decide (6<(y.pg.Kids.take (at'+1)++new::y.pg.Kids.drop (at'+1)).length))=true
        rw[hinsd,decide_eq_true hbig,Bool.or_true]
       have hput2:cy_ (av_ ⟨y.id,aV_ y.pg at' sep new⟩ false sl') y.id=if aI_ (ag_ (av_ ⟨y.id,aV_ y.pg at' sep new⟩ false sl')) 64=0 then(av_ ⟨y.id,(aM_ (aV_ y.pg at' sep new)).1⟩ false (av_ ⟨y.id,aV_ y.pg at' sep new⟩ false sl'),⟨#[]⟩,0,4)else(up2 (av_ ⟨y.id,aV_ y.pg at' sep new⟩ false sl') y.id (aV_ y.pg at' sep new),(aM_ (aV_ y.pg at' sep new)).2.2,aI_ (ag_ (av_ ⟨y.id,aV_ y.pg at' sep new⟩ false sl')) 64,0):=by
        rw[cy_,dw_ ok1.rise]
        simp only[hfl,Bool.true_eq_false,if_false]
       rw[hput2]at hK
       by_cases hz:aI_ (ag_ (av_ ⟨y.id,aV_ y.pg at' sep new⟩ false sl')) 64=0
       ·rw[if_pos hz]at hK hpg3
        simp(disch:=first|omega|simp only[lzz0_];first|done|omega)only[go_sem,seval,hz]
        exact hK _ _ (hgo.trans (hgo2.trans hgo3)) hpg3
       ·rw[if_neg hz]at hK hpg3
        simp(disch:=first|omega|simp only[lzz0_];first|done|omega)only[go_sem,seval,hz]
        exact hK _ _ (hgo.trans (hgo2.trans hgo3)) hpg3
      ·have hb1:(((y.pg.Kids.length+1:Nat):Int)>6)=False:=eq_false (by omega)
       simp(disch:=first|omega|simp only[lzz0_];first|done|omega)only[am_,aq_,go_sem,seval,o3,zz,hb1,r2,rl2]
       rw[set_set]
       obtain⟨gu,hgo2⟩:=gud _ rfl
       have hfl:bM_ (aV_ y.pg at' sep new)=false:=by
        show(decide (6<(y.pg.Keys.take at'++sep::y.pg.Keys.drop at').length)||decide (6<(y.pg.Kids.take (at'+1)++new::y.pg.Kids.drop (at'+1)).length))=false
        rw[hinsd,hinsl,decide_eq_false hbig,decide_eq_false (by omega)];rfl
       have hput2:cy_ (av_ ⟨y.id,aV_ y.pg at' sep new⟩ false sl') y.id=(av_ ⟨y.id,aV_ y.pg at' sep new⟩ false sl',⟨#[]⟩,0,0):=by
        rw[cy_,dw_ ok1.rise]
        simp only[hfl,if_true]
       rw[hput2]at hK
       exact hK _ _ (hgo.trans hgo2) gu
     ·refine bv_ (l:=y.k) (lv:=G.length) (i:=at') (mx:=mx+h+1) (xs:=y.pg.Keys) (v:=sep) (p1.keep (by(simp(disch:=(first|omega|(simp only[ls_,la_,lc_,ln_];omega)))only[ab_]))) haty (fun r hq=>g1.lim y.k (Pg.mem_foot hyB (by simp[PB.foot])) r (by rw[←hq];exact(ab_ lk).symm)) (by omega) (by first|((simp(disch:=(first|omega|(simp only[ls_,la_,lc_,ln_];omega)))only[as_]);done)|((simp(disch:=(first|omega|(simp only[ls_,la_,lc_,ln_];omega)))only[am_,aq_,ab_,as_,aX_,bO_,cu_]);rfl)) (by omega) ?_
      intro b1 H1 l1 hl1 hlt1 hlen1 kp1 w1 hlim1
      simp only[la_,lc_,ln_]at hl1 hlen1 kp1
      have keep1:∀l,l<G.length→l≠y.k→H1[l]?=G[l]?:=fun l q1 q2=>(kp1 l (by omega) q2).trans (ab_ q1)
      have o2:=(keep1 y.b lb nk).trans o1
      have cb1:b1.cell=true:=w1.cell
      simp(disch:=first|omega|simp only[lzz0_];first|done|omega)only[go_sem,seval,o2,hcast,aw_]
      refine ep_ (l:=y.d) (lv:=G.length+1) (i:=at'+1) (mx:=mx+h+1) (xs:=y.pg.Kids) (v:=new) (p3.keep (by first|exact keep1 _ ld (Ne.symm nkd)|exact(ab_ (by omega)).trans (keep1 _ ld (Ne.symm nkd)))) hatd (fun r hq=>g1.lim y.d (Pg.mem_foot hyB (by simp[PB.foot])) r (by rw[←hq];first|exact(keep1 _ ld (Ne.symm nkd)).symm|exact((ab_ (by omega)).trans (keep1 _ ld (Ne.symm nkd))).symm)) (by omega) (by first|exact as_ rfl|(rw[kp1 _ (by omega) (by omega)];(simp(disch:=(first|omega|(simp only[ls_,la_,lc_,ln_];omega)))only[aX_]);done)|(rw[kp1 _ (by omega) (by omega)];(simp(disch:=(first|omega|(simp only[ls_,la_,lc_,ln_];omega)))only[am_,aq_,ab_,as_,aX_,bO_,cu_]);rfl)) (by omega) ?_
      intro b2 H2 l2 hl2 hlt2 hlen2 kp2 w2 hlim2
      try simp only[la_,lc_,ln_]at hl2 hlen2 kp2
      have keep2:∀l,l<H1.length→l≠y.d→H2[l]?=H1[l]?:=fun l q1 q2=>(kp2 l (by omega) q2).trans (by first|rfl|exact ab_ q1)
      obtain⟨pre2,post2,rfl,r2⟩:=w2
      have hlv:((y.pg.Kids.take (at'+1)++new::y.pg.Kids.drop (at'+1)).map aB_).length=y.pg.Kids.length+1:=by rw[length_map];exact hinsd
      rw[hlv]at *
      have o3:=(keep2 y.b (by omega) nd').trans o2
      have v1:=w1.keep (keep2 l1 hlt1 (by omega))
      obtain⟨pre1,post1,rfl,r1⟩:=v1
      have hlk:((y.pg.Keys.take at'++sep::y.pg.Keys.drop at').map ah_).length=y.pg.Keys.length+1:=by rw[length_map];exact hinsl
      have rl2:(pre2++((y.pg.Kids.take (at'+1)++new::y.pg.Kids.drop (at'+1)).map aB_++post2)).length=pre2.length+(y.pg.Kids.length+1+post2.length):=by rw[gK_];simp only[length_map];rw[hinsd]
      rw[hlk]at cb1
      have zz:pre2.length+(y.pg.Kids.length+1)-pre2.length=y.pg.Kids.length+1:=by omega
      have gud:∀Hc:List Row,Hc=H2.set y.b ⟨.ty 77,4,[[.val (.bool false),.sub l1 (pre1.length+(y.pg.Keys.length+1+post1.length)) pre1.length (pre1.length+(y.pg.Keys.length+1)),a2,.sub l2 (pre2.length+(y.pg.Kids.length+1+post2.length)) pre2.length (pre2.length+(y.pg.Kids.length+1))]]⟩→PgS Hc T M root (D1++⟨y.id,aV_ y.pg at' sep new,y.b,l1,y.v,l2⟩::D2) lo (mx+(h+1)+1) (av_ ⟨y.id,aV_ y.pg at' sep new⟩ false sl')∧cD_ T M G (D1++y::D2) Hc (D1++⟨y.id,aV_ y.pg at' sep new,y.b,l1,y.v,l2⟩::D2):=by
       intro Hc hHc
       have lb2:y.b<H2.length:=by omega
       have kc:∀l,l≠y.b→Hc[l]?=H2[l]?:=fun l q=>by rw[hHc];exact am_ (Ne.symm q)
       have hHl:Hc.length=H2.length:=by rw[hHc];simp
       have nl1:l1≠y.b:=by omega
       have nl2:l2≠y.b:=by omega
       have r1':=(kc l1 nl1).trans r1
       refine gH_ (x:=y) (p':=aV_ y.pg at' sep new) (k:=l1) (v:=y.v) (d:=l2) (mx':=mx+(h+1)+1) g1 ok1.rise (by omega) (by omega) (by omega) (fun l q1 q2=>?_) ⟨_,_,_,by rw[hHc,aq_ lb2];show _=some (⟨.ty 77,4,[[.val (.bool y.pg.Leaf),_,_,_]]⟩:Row);rw[hly],⟨pre1,post1,by rw[hlk'],r1'⟩,p2.keep ((kc y.v (Ne.symm nv)).trans ((keep2 y.v (by omega) nvd).trans (keep1 y.v lv (Ne.symm nkv)))),⟨pre2,post2,by rw[hlv'],(kc l2 nl2).trans r2⟩⟩ (by omega) (.inl rfl) (by omega) (by omega) ?_ ?_ ?_
       ·simp only[PB.foot,mem_cons,not_mem_nil,or_false,not_or]at q2
        obtain⟨u1,u2,u3,u4⟩:=q2
        exact(kc l u1).trans ((keep2 l (by omega) u4).trans (keep1 l q1 u2))
       ·intro r hq
        rw[kc l1 nl1,keep2 l1 hlt1 (by omega)]at hq
        have:=hlim1 r hq
        omega
       ·intro r hq
        rw[kc y.v (Ne.symm nv),keep2 y.v (by omega) nvd,keep1 y.v lv (Ne.symm nkv)]at hq
        have:=g1.lim y.v (Pg.mem_foot hyB (by simp[PB.foot])) r hq
        omega
       ·intro r hq
        rw[kc l2 nl2]at hq
        have:=hlim2 r hq
        omega
      rw[hlk]at *
      by_cases hbig:6<y.pg.Kids.length+1
      ·have hb1:(((y.pg.Kids.length+1:Nat):Int)>6)=True:=eq_true (by omega)
       simp(disch:=first|omega|simp only[lzz0_];first|done|omega)only[am_,aq_,go_sem,seval,o3,zz,hb1,r2,rl2]
       refine callSem.at fun Hc hHc=>?_
       rw[set_set]at hHc
       obtain⟨gu,hgo2⟩:=gud Hc hHc
       refine gr_ (x:=⟨y.id,aV_ y.pg at' sep new,y.b,l1,y.v,l2⟩) gu ok2 (by omega) hly (by show(y.pg.Keys.take at'++sep::y.pg.Keys.drop at').length=6;omega) (by show(y.pg.Kids.take (at'+1)++new::y.pg.Kids.drop (at'+1)).length=7;omega) hvals _ ?_
       intro H' B' hgo3 hpg3
       have hfl:bM_ (aV_ y.pg at' sep new)=true:=by
        show(_||decide (6<(y.pg.Kids.take (at'+1)++new::y.pg.Kids.drop (at'+1)).length))=true
        rw[hinsd,decide_eq_true hbig,Bool.or_true]
       have hput2:cy_ (av_ ⟨y.id,aV_ y.pg at' sep new⟩ false sl') y.id=if aI_ (ag_ (av_ ⟨y.id,aV_ y.pg at' sep new⟩ false sl')) 64=0 then(av_ ⟨y.id,(aM_ (aV_ y.pg at' sep new)).1⟩ false (av_ ⟨y.id,aV_ y.pg at' sep new⟩ false sl'),⟨#[]⟩,0,4)else(up2 (av_ ⟨y.id,aV_ y.pg at' sep new⟩ false sl') y.id (aV_ y.pg at' sep new),(aM_ (aV_ y.pg at' sep new)).2.2,aI_ (ag_ (av_ ⟨y.id,aV_ y.pg at' sep new⟩ false sl')) 64,0):=by
        rw[cy_,dw_ ok1.rise]
        simp only[hfl,Bool.true_eq_false,if_false]
       rw[hput2]at hK
       by_cases hz:aI_ (ag_ (av_ ⟨y.id,aV_ y.pg at' sep new⟩ false sl')) 64=0
       ·rw[if_pos hz]at hK hpg3
        simp(disch:=first|omega|simp only[lzz0_];first|done|omega)only[go_sem,seval,hz]
        exact hK _ _ (hgo.trans (hgo2.trans hgo3)) hpg3
       ·rw[if_neg hz]at hK hpg3
        simp(disch:=first|omega|simp only[lzz0_];first|done|omega)only[go_sem,seval,hz]
        exact hK _ _ (hgo.trans (hgo2.trans hgo3)) hpg3
      ·have hb1:(((y.pg.Kids.length+1:Nat):Int)>6)=False:=eq_false (by omega)
       simp(disch:=first|omega|simp only[lzz0_];first|done|omega)only[am_,aq_,go_sem,seval,o3,zz,hb1,r2,rl2]
       rw[set_set]
       obtain⟨gu,hgo2⟩:=gud _ rfl
       have hfl:bM_ (aV_ y.pg at' sep new)=false:=by
        show(decide (6<(y.pg.Keys.take at'++sep::y.pg.Keys.drop at').length)||decide (6<(y.pg.Kids.take (at'+1)++new::y.pg.Kids.drop (at'+1)).length))=false
        rw[hinsd,hinsl,decide_eq_false hbig,decide_eq_false (by omega)];rfl
       have hput2:cy_ (av_ ⟨y.id,aV_ y.pg at' sep new⟩ false sl') y.id=(av_ ⟨y.id,aV_ y.pg at' sep new⟩ false sl',⟨#[]⟩,0,0):=by
        rw[cy_,dw_ ok1.rise]
        simp only[hfl,if_true]
       rw[hput2]at hK
       exact hK _ _ (hgo.trans hgo2) gu
     ·refine bv_ (l:=y.k) (lv:=G.length+1) (i:=at') (mx:=mx+h+1) (xs:=y.pg.Keys) (v:=sep) (p1.keep (by(simp(disch:=(first|omega|(simp only[ls_,la_,lc_,ln_];omega)))only[ab_]))) haty (fun r hq=>g1.lim y.k (Pg.mem_foot hyB (by simp[PB.foot])) r (by rw[←hq];exact(ab_ lk).symm)) (by omega) (by first|((simp(disch:=(first|omega|(simp only[ls_,la_,lc_,ln_];omega)))only[aX_]);done)|((simp(disch:=(first|omega|(simp only[ls_,la_,lc_,ln_];omega)))only[am_,aq_,ab_,as_,aX_,bO_,cu_]);rfl)) (by omega) ?_
      intro b1 H1 l1 hl1 hlt1 hlen1 kp1 w1 hlim1
      simp only[la_,lc_,ln_]at hl1 hlen1 kp1
      have keep1:∀l,l<G.length→l≠y.k→H1[l]?=G[l]?:=fun l q1 q2=>(kp1 l (by omega) q2).trans (ab_ q1)
      have o2:=(keep1 y.b lb nk).trans o1
      have cb1:b1.cell=true:=w1.cell
      simp(disch:=first|omega|simp only[lzz0_];first|done|omega)only[go_sem,seval,o2,hcast,aw_]
      refine ep_ (l:=y.d) (lv:=G.length) (i:=at'+1) (mx:=mx+h+1) (xs:=y.pg.Kids) (v:=new) (p3.keep (by first|exact keep1 _ ld (Ne.symm nkd)|exact(ab_ (by omega)).trans (keep1 _ ld (Ne.symm nkd)))) hatd (fun r hq=>g1.lim y.d (Pg.mem_foot hyB (by simp[PB.foot])) r (by rw[←hq];first|exact(keep1 _ ld (Ne.symm nkd)).symm|exact((ab_ (by omega)).trans (keep1 _ ld (Ne.symm nkd))).symm)) (by omega) (by first|exact as_ rfl|(rw[kp1 _ (by omega) (by omega)];(simp(disch:=(first|omega|(simp only[ls_,la_,lc_,ln_];omega)))only[as_]);done)|(rw[kp1 _ (by omega) (by omega)];(simp(disch:=(first|omega|(simp only[ls_,la_,lc_,ln_];omega)))only[am_,aq_,ab_,as_,aX_,bO_,cu_]);rfl)) (by omega) ?_
      intro b2 H2 l2 hl2 hlt2 hlen2 kp2 w2 hlim2
      try simp only[la_,lc_,ln_]at hl2 hlen2 kp2
      have keep2:∀l,l<H1.length→l≠y.d→H2[l]?=H1[l]?:=fun l q1 q2=>(kp2 l (by omega) q2).trans (by first|rfl|exact ab_ q1)
      obtain⟨pre2,post2,rfl,r2⟩:=w2
      have hlv:((y.pg.Kids.take (at'+1)++new::y.pg.Kids.drop (at'+1)).map aB_).length=y.pg.Kids.length+1:=by rw[length_map];exact hinsd
      rw[hlv]at *
      have o3:=(keep2 y.b (by omega) nd').trans o2
      have v1:=w1.keep (keep2 l1 hlt1 (by omega))
      obtain⟨pre1,post1,rfl,r1⟩:=v1
      have hlk:((y.pg.Keys.take at'++sep::y.pg.Keys.drop at').map ah_).length=y.pg.Keys.length+1:=by rw[length_map];exact hinsl
      have rl2:(pre2++((y.pg.Kids.take (at'+1)++new::y.pg.Kids.drop (at'+1)).map aB_++post2)).length=pre2.length+(y.pg.Kids.length+1+post2.length):=by rw[gK_];simp only[length_map];rw[hinsd]
      rw[hlk]at cb1
      have zz:pre2.length+(y.pg.Kids.length+1)-pre2.length=y.pg.Kids.length+1:=by omega
      have gud:∀Hc:List Row,Hc=H2.set y.b ⟨.ty 77,4,[[.val (.bool false),.sub l1 (pre1.length+(y.pg.Keys.length+1+post1.length)) pre1.length (pre1.length+(y.pg.Keys.length+1)),a2,.sub l2 (pre2.length+(y.pg.Kids.length+1+post2.length)) pre2.length (pre2.length+(y.pg.Kids.length+1))]]⟩→PgS Hc T M root (D1++⟨y.id,aV_ y.pg at' sep new,y.b,l1,y.v,l2⟩::D2) lo (mx+(h+1)+1) (av_ ⟨y.id,aV_ y.pg at' sep new⟩ false sl')∧cD_ T M G (D1++y::D2) Hc (D1++⟨y.id,aV_ y.pg at' sep new,y.b,l1,y.v,l2⟩::D2):=by
       intro Hc hHc
       have lb2:y.b<H2.length:=by omega
       have kc:∀l,l≠y.b→Hc[l]?=H2[l]?:=fun l q=>by rw[hHc];exact am_ (Ne.symm q)
       have hHl:Hc.length=H2.length:=by rw[hHc];simp
       have nl1:l1≠y.b:=by omega
       have nl2:l2≠y.b:=by omega
       have r1':=(kc l1 nl1).trans r1
       refine gH_ (x:=y) (p':=aV_ y.pg at' sep new) (k:=l1) (v:=y.v) (d:=l2) (mx':=mx+(h+1)+1) g1 ok1.rise (by omega) (by omega) (by omega) (fun l q1 q2=>?_) ⟨_,_,_,by rw[hHc,aq_ lb2];show _=some (⟨.ty 77,4,[[.val (.bool y.pg.Leaf),_,_,_]]⟩:Row);rw[hly],⟨pre1,post1,by rw[hlk'],r1'⟩,p2.keep ((kc y.v (Ne.symm nv)).trans ((keep2 y.v (by omega) nvd).trans (keep1 y.v lv (Ne.symm nkv)))),⟨pre2,post2,by rw[hlv'],(kc l2 nl2).trans r2⟩⟩ (by omega) (.inl rfl) (by omega) (by omega) ?_ ?_ ?_
       ·simp only[PB.foot,mem_cons,not_mem_nil,or_false,not_or]at q2
        obtain⟨u1,u2,u3,u4⟩:=q2
        exact(kc l u1).trans ((keep2 l (by omega) u4).trans (keep1 l q1 u2))
       ·intro r hq
        rw[kc l1 nl1,keep2 l1 hlt1 (by omega)]at hq
        have:=hlim1 r hq
        omega
       ·intro r hq
        rw[kc y.v (Ne.symm nv),keep2 y.v (by omega) nvd,keep1 y.v lv (Ne.symm nkv)]at hq
        have:=g1.lim y.v (Pg.mem_foot hyB (by simp[PB.foot])) r hq
        omega
       ·intro r hq
        rw[kc l2 nl2]at hq
        have:=hlim2 r hq
        omega
      rw[hlk]at *
      by_cases hbig:6<y.pg.Kids.length+1
      ·have hb1:(((y.pg.Kids.length+1:Nat):Int)>6)=True:=eq_true (by omega)
       simp(disch:=first|omega|simp only[lzz0_];first|done|omega)only[am_,aq_,go_sem,seval,o3,zz,hb1,r2,rl2]
       refine callSem.at fun Hc hHc=>?_
       rw[set_set]at hHc
       obtain⟨gu,hgo2⟩:=gud Hc hHc
       refine gr_ (x:=⟨y.id,aV_ y.pg at' sep new,y.b,l1,y.v,l2⟩) gu ok2 (by omega) hly (by show(y.pg.Keys.take at'++sep::y.pg.Keys.drop at').length=6;omega) (by show(y.pg.Kids.take (at'+1)++new::y.pg.Kids.drop (at'+1)).length=7;omega) hvals _ ?_
       intro H' B' hgo3 hpg3
       have hfl:bM_ (aV_ y.pg at' sep new)=true:=by
        show(_||decide (6<(y.pg.Kids.take (at'+1)++new::y.pg.Kids.drop (at'+1)).length))=true
        rw[hinsd,decide_eq_true hbig,Bool.or_true]
       have hput2:cy_ (av_ ⟨y.id,aV_ y.pg at' sep new⟩ false sl') y.id=if aI_ (ag_ (av_ ⟨y.id,aV_ y.pg at' sep new⟩ false sl')) 64=0 then(av_ ⟨y.id,(aM_ (aV_ y.pg at' sep new)).1⟩ false (av_ ⟨y.id,aV_ y.pg at' sep new⟩ false sl'),⟨#[]⟩,0,4)else(up2 (av_ ⟨y.id,aV_ y.pg at' sep new⟩ false sl') y.id (aV_ y.pg at' sep new),(aM_ (aV_ y.pg at' sep new)).2.2,aI_ (ag_ (av_ ⟨y.id,aV_ y.pg at' sep new⟩ false sl')) 64,0):=by
        rw[cy_,dw_ ok1.rise]
        simp only[hfl,Bool.true_eq_false,if_false]
       rw[hput2]at hK
       by_cases hz:aI_ (ag_ (av_ ⟨y.id,aV_ y.pg at' sep new⟩ false sl')) 64=0
       ·rw[if_pos hz]at hK hpg3
        simp(disch:=first|omega|simp only[lzz0_];first|done|omega)only[go_sem,seval,hz]
        exact hK _ _ (hgo.trans (hgo2.trans hgo3)) hpg3
       ·rw[if_neg hz]at hK hpg3
        simp(disch:=first|omega|simp only[lzz0_];first|done|omega)only[go_sem,seval,hz]
        exact hK _ _ (hgo.trans (hgo2.trans hgo3)) hpg3
      ·have hb1:(((y.pg.Kids.length+1:Nat):Int)>6)=False:=eq_false (by omega)
       simp(disch:=first|omega|simp only[lzz0_];first|done|omega)only[am_,aq_,go_sem,seval,o3,zz,hb1,r2,rl2]
       rw[set_set]
       obtain⟨gu,hgo2⟩:=gud _ rfl
       have hfl:bM_ (aV_ y.pg at' sep new)=false:=by
        show(decide (6<(y.pg.Keys.take at'++sep::y.pg.Keys.drop at').length)||decide (6<(y.pg.Kids.take (at'+1)++new::y.pg.Kids.drop (at'+1)).length))=false
        rw[hinsd,hinsl,decide_eq_false hbig,decide_eq_false (by omega)];rfl
       have hput2:cy_ (av_ ⟨y.id,aV_ y.pg at' sep new⟩ false sl') y.id=(av_ ⟨y.id,aV_ y.pg at' sep new⟩ false sl',⟨#[]⟩,0,0):=by
        rw[cy_,dw_ ok1.rise]
        simp only[hfl,if_true]
       rw[hput2]at hK
       exact hK _ _ (hgo.trans hgo2) gu
   ·rw[if_pos hc]at hK
    simp(disch:=first|omega|simp only[lzz0_];first|done|omega)only[go_sem,seval,hc]
    exact hK _ _ hgo (hpg.mono (by omega))
theorem PgS.reroot{H:List Row}{T M:Nat}{root:Int}{B:List PB}{lo mx:Nat}{sl:List aa_}(g:PgS H T M root B lo mx sl)(h1:1≤mx)(root':Int):PgS (H.set T ⟨.ty 93,2,[[.val (.int .i64 root'),.mp M]]⟩) T M root' B lo mx sl∧cD_ T M H B (H.set T ⟨.ty 93,2,[[.val (.int .i64 root'),.mp M]]⟩) B:=by
 obtain⟨ents,ck,g0⟩:=g.pg
 have hT:=(g0.lows T (by simp)).2
 refine⟨⟨⟨ents,ck,g0.reroot⟩,g.same,fun l hl r hr=>?_⟩,by simp,fun l hl hn=>?_,fun l hl=>.inl hl,fun y hy=>⟨y,hy,rfl,rfl⟩⟩
 ·by_cases e:T=l
  ·subst e
   rw[getElem?_set_self hT]at hr
   obtain rfl:=Option.some.inj hr
   exact h1
  ·rw[getElem?_set_ne e]at hr
   exact g.lim l hl r hr
 ·exact getElem?_set_ne (fun e:T=l=>hn (by rw[←e];simp[PB.all]))
theorem vU_{H Hy:List Row}{T M:Nat}{root:Int}{B:List PB}{lo mx:Nat}{sl:List aa_}(g:PgS H T M root B lo mx sl)(hrise:dD_ sl)(hmo:bb_ H Hy){right:ai_}(hmx:1≤mx){r1 r2 r3:Nat}{b1 b2 b3:AV}
 (h1:aR_ Hy 9 1 b1 r1 (right.Keys.map ah_)) (h2:aR_ Hy 9 1 b2 r2 (right.Vals.map ah_)) (h3:aR_ Hy 2 1 b3 r3 (right.Kids.map aB_))
 (hr:H.length≤r1∧H.length≤r2∧H.length≤r3∧r1≠r2∧r1≠r3∧r2≠r3) (hlim:Lim Hy [r1,r2,r3] mx) (K:AV→List Row→Prop)
 (hK:∀H' B',cD_ T M H B H' B'→PgS H' T M root B' lo mx (if aI_ (ag_ sl) 64=0 then sl else av_ ⟨aI_ (ag_ sl) 64,right⟩ false sl)→K (.val (.int .i64 (aI_ (ag_ sl) 64))) H') :
 callSem Tryz.prog 81 [.ptr T 1 0 0,.agg [.val (.bool right.Leaf),b1,b2,b3]] Hy K:=by
 have gu:=g.more hmo
 have hgo:cD_ T M H B Hy B:=cD_.more hmo
 have hlen:=hmo.len
 obtain⟨ents0,ck0,g0⟩:=g.pg
 obtain⟨ents,ck,gx⟩:=gu.pg
 have hTM:T≠M:=by
  intro e
  have:=(nodup_cons.1 gx.one).1
  exact this (by simp[e])
 have hlow:∀l∈PB.all T M B,l<H.length∧lo≤l:=fun l hl=>⟨(g0.lows l hl).2,(g0.lows l hl).1⟩
 have hlo:lo≤H.length:=by have:=g0.lows T (by simp);omega
 obtain⟨e1,e2,e3,e4,e5,e6⟩:=hr
 have l1:=h1.lt
 have l2:=h2.lt
 have l3:=h3.lt
 refine kD_ (st:=ag_ sl) gx.box gx.map hTM (PgS.isSome gx gu.same) _ _ _ _ (by simp only[all_cons,all_nil,Bool.and_true,h1.cell,h2.cell,h3.cell];rfl) K (fun hz=>?_) (fun hz=>?_)
 ·have:=hK (Hy++[⟨.ty 77,4,[[.val (.bool right.Leaf),b1,b2,b3]]⟩]) _ (hgo.trans (cD_.more (bb_.app _ _))) (by rw[if_pos hz];exact gu.more (bb_.app _ _))
  rw[hz]at this
  exact this
 ·rcases f8_ (st:=ag_ sl) 64 (Nat.le_refl _)with q|⟨q1,q2,q3⟩
  ·exact absurd q hz
  have hMl:M<Hy.length:=(gx.lows M (by simp)).2
  have hMn:M<H.length:=(hlow M (by simp[PB.all])).1
  have hke:∀(r r':Row) (l:Nat),l<Hy.length→l≠M→((Hy++[r]).set M r')[l]?=Hy[l]?:=fun r r' l hl hne=>by
   rw[getElem?_set_ne (Ne.symm hne),getElem?_append_left hl]
  have hbn:∀(r r':Row),((Hy++[r]).set M r')[Hy.length]?=some r:=fun r r'=>by
   rw[getElem?_set_ne (by omega),getElem?_append_right (Nat.le_refl _),Nat.sub_self];rfl
  have ga:=gu.add (H':=((Hy++([⟨.ty 77,4,[[.val (.bool right.Leaf),b1,b2,b3]]⟩]:List Row)).set M ⟨.pmap (ents++[(aI_ (ag_ sl) 64,ck,AV.ptr Hy.length 1 0 0)]) (ck+1),0,[]⟩)) (x:=⟨aI_ (ag_ sl) 64,right,Hy.length,r1,r2,r3⟩) (mx':=mx) hrise q3 (fun l hl hne=>hke _ _ l hl hne) (by simp) (by
   intro l hl
   simp only[PB.foot,mem_cons,not_mem_nil,or_false]at hl
   have hb:H.length≤l∧l≤Hy.length:=by omega
   refine⟨by omega,by simp only[ls_,la_,lc_,ln_];omega,fun hm=>?_⟩
   have:=(hlow l hm).1
   omega) (by simp only[PB.foot,nodup_cons,mem_cons,not_mem_nil,or_false,not_or,nodup_nil,and_true,not_false_eq_true];omega)
   ⟨b1,b2,b3,hbn _ _,h1.keep (hke _ _ _ l1 (by omega)),h2.keep (hke _ _ _ l2 (by omega)),h3.keep (hke _ _ _ l3 (by omega))⟩ (by
    intro ents' ck' hm
    rw[gx.map]at hm
    have hm:=Option.some.inj hm
    simp only[Row.mk.injEq,Tag.pmap.injEq,and_true]at hm
    obtain⟨rfl,rfl⟩:=hm
    exact getElem?_set_self (by simp;omega)) (Nat.le_refl _) (by
    intro l hl r hq
    simp only[PB.foot,mem_cons,not_mem_nil,or_false]at hl
    rcases hl with rfl|hl
    ·rw[hbn]at hq
     obtain rfl:=Option.some.inj hq
     show 1≤mx
     omega
    ·have hl2:l∈[r1,r2,r3]:=by simpa using hl
     rw[hke _ _ l (by omega) (by omega)]at hq
     exact hlim l hl2 r hq)
  refine hK _ _ (cD_.add (x:=⟨aI_ (ag_ sl) 64,right,Hy.length,r1,r2,r3⟩) hgo (fun l hl hne=>hke _ _ l hl hne) (by simp) (by
   intro l hl
   simp only[PB.foot,mem_cons,not_mem_nil,or_false]at hl
   omega)) ?_
  rw[if_neg hz]
  exact ga
def c39:LC :=
 .q [.o [.ki 6 0],.gops [.m 12 0,.m 13 0,.nc 14 13,.fa 15 1 14,.ln 16 15,.m 17 0,.nc 18 17,.fa 19 0 18,.ln 20 19,.s 21 (.ext (.lookP false (.tmp 16) (.tmp 20))),.m 22 1,.m 23 2] [(.s 24 (.call 80 [.tmp 12,
 .tmp 21,.tmp 22,.tmp 23]),[]),(.m 11 24,[]),(.ex 25 11 0,[]),(.ex 26 11 1,[]),(.ex 27 11 2,[]),(.m 7 25,[]),(.m 8 26,[]),(.m 9 27,[])],.q [.o [.m 28 9,.bk 29 .neq false 28 0,.m 30 29,.gm 31 30 false
 8,.g 32 30 false (.bin .eql false (.tmp 31) (.const (.int .i64 0))),.pt 33 30 32],.k 33 (.q [.o [.m 34 9,.m 6 34],.ret]) .skip],.o [.m 35 0,.m 36 7,.s 37 (.buildSlice 9 1 (.string ⟨#[]⟩) 1 [(0,.tmp 36)]),.m 38
 0,.nc 39 38,.fa 40 0 39,.ln 41 40,.m 42 8,.s 43 (.buildSlice 2 1 (.int .i64 0) 2 [(0,.tmp 41),(1,.tmp 42)]),.s 44 (.build z1z [(0,1),(1,1),(2,1),(3,1)] [(1,.tmp 37),(3,.tmp 43)]),.c2 45 81 35 44,.m
 10 45],.q [.o [.m 46 10,.bk 47 .eql false 46 0],.k 47 (.q [.o [.ki 6 4],.ret]) .skip],.o [.m 48 0,.m 49 10,.nc 50 48,.fa 51 0 50,.st 1 51 49],.o [.ki 6 0],.ret]
def Ci_:LF:=⟨3,52,c39,[.tmp 6]⟩
theorem DI_:az_ Tryz.prog Tryz.f39 Ci_:=gM_
theorem m0_{key value:ByteArray}(hkey:b5_ key=true)(hv64:value.size≤64){T M:Nat}{root:Int}{lo hh mx:Nat}{sl:List aa_}{ids:List Int}{H:List Row}{B:List PB}(hhn:hh<65)(hm7:7≤mx)(hmx:mx+hh≤1073741000)(ok:cO_ sl)(t:a7_ (ag_ sl) hh true root ⟨#[]⟩ ⟨#[]⟩ ids)(nd:ids.Nodup)(g:PgS H T M root B lo mx sl)(K:AV→List Row→Prop)
 (hK:∀H' B',cD_ T M H B H' B'→PgS H' T M (dg_ 65 ⟨root,sl⟩ key value).1.Root B' lo (mx+hh+1) (dg_ 65 ⟨root,sl⟩ key value).1.Slots→K (.val (.int .i64 (dg_ 65 ⟨root,sl⟩ key value).2)) H') :
 callSem Tryz.prog 39 [.ptr T 1 0 0,.val (.string key),.val (.string value)] H K:=by
 obtain⟨ents0,ck0,g0⟩:=g.pg
 have gT:=g0.box
 have gM:=g0.map
 obtain⟨p0,hp0,_⟩:=t.page
 have hfd:=g0.find root
 have hsf:=g.same root
 rw[g8_,hp0]at hsf
 cases hz:B.find? (fun x_1=>x_1.id==root)with
 | none=>rw[hz]at hsf;cases hsf
 | some z =>
 rw[hz]at hfd
 have hzB:=mem_of_find?_eq_some hz
 have hzid:z.id=root:=by simpa using find?_some hz
 simp only[Option.map_some]at hfd
 refine aJ_ mixed Tryz.func39 DI_ (bi_ rfl ?_)
 simp(disch:=omega)only[Ci_,c39,gT,gM,hfd,Option.getD_some,go_sem,seval]
 refine kV_ hkey hv64 hh 65 mx sl true root _ _ ids H B z _ hhn hm7 hmx ok t nd g hzB hzid ?_
 intro G B' hgo hpg
 obtain⟨hgr,hsep⟩:=f5_ hkey hv64 hh 65 sl true root _ _ ids hhn ok t nd
 obtain⟨sl',sep,new,code,hr⟩:∃sl' sep new code,bN_ 65 sl root key value=(sl',sep,new,code):=⟨_,_,_,_,rfl⟩
 have hI:dg_ 65 ⟨root,sl⟩ key value=if code≠0 then(⟨root,sl'⟩,code)else if new=0 then(⟨root,sl'⟩,0)else if aI_ (ag_ sl') 64=0 then(⟨root,sl'⟩,4)else(⟨aI_ (ag_ sl') 64,av_ ⟨aI_ (ag_ sl') 64,c7_ sep root new⟩ false sl'⟩,0):=by
  unfold dg_;simp only[hr]
 rw[hI]at hK
 rw[hr]at hpg hgr hsep
 rw[hr]
 simp only at hpg hgr hsep hK
 clear hI hfd hsf hz
 by_cases hc:code=0
 ·by_cases hn0:new=0
  ·rw[if_neg (by simpa using hc),if_pos hn0]at hK
   simp(disch:=first|omega|simp only[lzz0_];first|done|omega)only[go_sem,seval,hc,hn0]
   exact hK _ _ hgo hpg
  ·rw[if_neg (by simpa using hc),if_neg hn0]at hK
   obtain⟨ents1,ck1,g1⟩:=hpg.pg
   have gT1:=g1.box
   have gM1:=g1.map
   have hTl:=(g1.lows T (by simp)).2
   simp(disch:=first|omega|simp only[lzz0_];first|done|omega)only[ab_,go_sem,seval,hc,hn0,gT1,bT_]
   refine callSem.at fun Hx hHx=>?_
   refine callSem.args (aU_ (bs_ _) (aU_ (gf_ (aU_ (bs_ _) (aU_ (dO_ _ _) (aU_ (bs_ _) (aU_ (dO_ _ _) (fun _ _ h=>h)))))) (fun _ _ h=>h))) ?_
   have len:Hx.length=G.length+2:=by rw[hHx];simp
   have kept:∀l,l<G.length→Hx[l]?=G[l]?:=fun l q1=>by rw[hHx];exact ab_ q1
   have rk:Hx[G.length]?=some ⟨.ty 9,1,[sep].map ah_⟩:=by rw[hHx];(simp(disch:=(first|omega|(simp only[ls_,la_,lc_,ln_];omega)))only[as_]);rfl
   have rd:Hx[G.length+1]?=some ⟨.ty 2,1,[root,new].map aB_⟩:=by rw[hHx];(simp(disch:=(first|omega|(simp only[ls_,la_,lc_,ln_];omega)))only[aX_]);rfl
   clear hHx
   refine callSem.nilrow 9 1 (fun S S' xs le hn hr=>wK_ le hn hr) ?_
   have ol:∀(r:Row) l,l<Hx.length→(Hx++[r])[l]?=Hx[l]?:=fun r l q=>getElem?_append_left q
   refine vU_ hpg hgr.ok.rise (right:=c7_ sep root new) ⟨by rw[la_,len];omega,fun l hl=>(ol _ l (by omega)).trans (kept l hl)⟩ (by omega) (r1:=G.length) (r2:=Hx.length) (r3:=G.length+1)
    (aR_.all (xs:=[sep]) rfl ((ol _ _ (by omega)).trans rk)) (aR_.all (f:=ah_) (xs:=[]) rfl (by rw[getElem?_append_right (Nat.le_refl _),Nat.sub_self];rfl)) (aR_.all (xs:=[root,new]) rfl ((ol _ _ (by omega)).trans rd)) (by omega) ?_ _ ?_
   ·intro l hl2 r hq
    simp only[mem_cons,not_mem_nil,or_false]at hl2
    rcases hl2 with rfl|rfl|rfl
    ·rw[(ol _ _ (by omega)).trans rk]at hq
     obtain rfl:=Option.some.inj hq
     simp only[length_map,lc_,ln_];omega
    ·rw[getElem?_append_right (Nat.le_refl _),Nat.sub_self]at hq
     obtain rfl:=Option.some.inj hq
     exact Nat.zero_le _
    ·rw[(ol _ _ (by omega)).trans rd]at hq
     obtain rfl:=Option.some.inj hq
     simp only[length_map,lc_,ln_];omega
   ·intro H3 B3 hgo3 hpg3
    by_cases hw:aI_ (ag_ sl') 64=0
    ·rw[if_pos hw]at hK hpg3
     simp(disch:=first|omega|simp only[lzz0_];first|done|omega)only[go_sem,↓reduceIte,hw]
     exact hK _ _ (hgo.trans hgo3) hpg3
    ·rw[if_neg hw]at hK hpg3
     obtain⟨ents3,ck3,g3⟩:=hpg3.pg
     have gT3:=g3.box
     have hTl3:=(g3.lows T (by simp)).2
     obtain⟨ge,hgo4⟩:=hpg3.reroot (by omega) (aI_ (ag_ sl') 64)
     simp(disch:=first|omega|simp only[lzz0_];first|done|omega)only[go_sem,seval,hw,gT3]
     exact hK _ _ ((hgo.trans hgo3).trans hgo4) ge
 ·rw[if_pos hc]at hK
  simp(disch:=first|omega|simp only[lzz0_];first|done|omega)only[go_sem,seval,hc]
  exact hK _ _ hgo hpg
end Go.Proofs.YtlcmlgihlojdmaaGreatDoor
