/-
 Contracts of functions. Conditions: as each theorem says.
-/
import Derived.Test.YtlcmlgihlojdmaaGreatDoorFnKA
import Derived.Test.YtlcmlgihlojdmaaGreatDoorAwBits
import Derived.Test.YtlcmlgihlojdmaaGreatDoorAwC
import Derived.Test.YtlcmlgihlojdmaaGreatDoorPlKey
namespace Go.Proofs.YtlcmlgihlojdmaaGreatDoor
open List
open Go.AW
set_option linter.unusedVariables false
set_option linter.unusedSimpArgs false
set_option maxRecDepth 4000
open Nat (reduceEqDiff reduceLeDiff)
open Tryz (prog)
abbrev lq_(b:Nat):AV:=.val (.pointer (some ⟨b,0,none⟩))
theorem mR_{b:Nat}{l:List UInt8}{c:UInt8}{K:AV→Bd→Prop}(hlen:l.length+1≤140737488355328)(hk:K (.val .nilIface) (Bd.of b (l++[c]))):fX_ Tryz.prog 199 5 205 [lq_ b,.val (.int .u8 c.toNat)] (Bd.of b (l)) K :=
 kH_ (vals:=[.int .u8 c.toNat]) (r:=.nilIface) (new:=[c]) (fun B w h hB=>(Any.Builder_WriteByte_k Tryz.lays167 Tryz.Builder_Extra_167 B b (Lib.byteCells l) c.toNat w h (by rw[Lib.byteCells_length];exact hlen) hB).mono (by
  rintro en w' ⟨rfl,h1,h2,_⟩
  refine⟨rfl,.inr ?_,h2⟩
  have e:Lib.byteCells (l++[c])=Lib.byteCells l++[.int .u8 c.toNat]:=by simp[Lib.byteCells]
  rw[e];exact h1)) hk
theorem yV_{b:Nat}{l s:List UInt8}{K:AV→Bd→Prop}(hlen:l.length+s.length≤140737488355328)(hk:∀r:Value,K (.val r) (Bd.of b (l++s))):fX_ Tryz.prog 199 5 217 [lq_ b,.val (.string (txt s))] (Bd.of b (l)) K :=
 kH_ (vals:=[.string (txt s)]) (r:=.tuple #[.int .i64 (txt s).size,.nilIface]) (new:=s) (fun B w h hB=>(Any.Builder_WriteString_k Tryz.lays166 Tryz.Builder_Extra_166 B b (Lib.byteCells l) (txt s) w h (by rw[Lib.byteCells_length,bb_];exact hlen) hB).mono (by
  rintro en w' ⟨rfl,h1,h2,_⟩
  refine⟨rfl,.inr ?_,h2⟩
  have e:Lib.byteCells (l++s)=Lib.byteCells l++Lib.strCells (txt s):=by simp[Lib.byteCells,Lib.strCells,txt]
  rw[e];exact h1)) (hk _)
theorem v0_{b:Nat}{l:List UInt8}{K:AV→Bd→Prop}(hk:K (.val (.string (txt l))) (Bd.of b (l))):fX_ Tryz.prog 199 5 186 [lq_ b] (Bd.of b (l)) K:=by
 refine kH_ (vals:=[]) (r:=.string (txt l)) (new:=[]) (fun B w h hB=>(Any.Builder_String_any_k Tryz.lays169 Tryz.Builder_Extra_169 B b l w h hB).mono (by
  rintro en w' ⟨rfl,h1,h2,_⟩
  refine⟨rfl,?_,h2⟩
  rw[append_nil];exact h1)) (by rw[append_nil];exact hk)
theorem iO_(s:List UInt8)(hs:s.length≤1048576)(h:List Row):PureCall Tryz.prog 218 [.val (.string (txt s)),.val (.string (txt [0])),.val (.string (txt [0,255]))] h (.val (.string (txt (esc s)))):=by
 refine qE_ (vals:=[.string (txt s),.string (txt [0]),.string (txt [0,255])]) (fun w hM=>?_) h
 obtain⟨m,hm⟩:=hM (Tryz.lays155_ren.g 1) (by kernel_rfl)
 have hc:Lib.countB (txt s) (txt [0])≤s.length:=by
  show Lib.count (txt s).data.toList (txt [0]).data.toList≤_
  rw[bg_,bg_,Lib.count_one];exact count_le_length
 have:=Any.strings_ReplaceAll Tryz.lays155 Tryz.Builder_Extra_155 (txt s) (txt [0]) (txt [0,255]) m w (by rw[bb_];omega) hm (by rw[bb_];decide) (by rw[bb_,bb_];simp only[lc_,ln_];omega)
 rw[bg_,bg_,bg_,nf_]at this
 exact this
theorem xI_(n k:Nat)(h:k<(be8 n).length):(be8 n)[k]=dd_ n (7-k):=by
 rw[dG_]at h
 rcases(by omega:k=0∨k=1∨k=2∨k=3∨k=4∨k=5∨k=6∨k=7)with e|e|e|e|e|e|e|e<;>subst e<;>rfl
theorem pC_(n k:Nat)(h:k<8):(be8 n).take (k+1)=(be8 n).take k++[dd_ n (7-k)]:=by
 rw[take_succ_eq_append_getElem (by rw[dG_];exact h),xI_]
theorem rv_(n k:Nat)(h:k=8):(be8 n).take k=be8 n:=by subst h;rfl
theorem yO_(n k:Nat)(h:k<8):IntKind.u8.wrap ((n:Int).fdiv (2 ^ min (56-8 * (k:Int)).toNat 64))=((dd_ n (7-k)).toNat:Int):=by
 have e:(56-8 * (k:Int)).toNat=(8 * ((7-k:Nat):Int)).toNat:=by omega
 rw[e,pp_ _ _ (by omega),mv_]
def yQ_:LC :=
 .q [.q [.o [.m 6 1,.c1 7 215 6],.k 7 (.q [.o [.m 8 1,.c1 9 216 8,.bk 10 .add false 9 1000000000000000000,.s 11 (.convInt .u64 (.tmp 10)),.m 4 11],.o [.m 12 0,.s 13 (.call 205 [.tmp 12,.const (.int .u8 1)])],.q
 [.o [.ki 5 56],.block 0 (.loop (.q [.q [.o [.m 14 5,.bk 15 .geq false 14 0],.k 15 .skip (.exit 0)],.block 1 (.o [.m 18 0,.m 19 4,.m 20 5,.bb 21 .shr false 19 20,.s 22 (.convInt .u8 (.tmp 21)),.c2 23 205 18 22]),
 .o [.m 16 5,.bk 17 .sub false 16 8,.m 5 17]]))],.ret]) .skip],.o [.m 24 0,.s 25 (.call 205 [.tmp 24,.const (.int .u8 2)])],.o [.m 26 0,.m 27 1,.s 28 (.call 218 [.tmp 27,.const (.string ⟨#[0]⟩),.const (.string
 ⟨#[0,255]⟩)]),.c2 29 217 26 28],.o [.m 30 0,.s 31 (.call 217 [.tmp 30,.const (.string ⟨#[0,0]⟩)])]]
def wt_:LF:=⟨2,32,yQ_,[]⟩
theorem yv_:aC_ Tryz.prog Tryz.f185 wt_:=az_
theorem oG_{b:Nat}{l:List UInt8}{s:ByteArray}(hs:s.size≤1048576)(hl:l.length≤1000000000){K:AV→Bd→Prop}(hk:K (.tup []) (Bd.of b (l++ch_ (bs s)))):fX_ Tryz.prog 199 5 185 [lq_ b,.val (.string s)] (Bd.of b (l)) K:=by
 refine lB_ (by decide) mixed Tryz.func185 yv_ rfl ?_
 simp(disch:=omega)only[wt_,yQ_,go_sem,↓reduceIte]
 refine PureCall.b rfl (lr_ s hs _) ?_
 have hbl:(bs s).length=s.size:=eN_ s
 by_cases q:dI_ (bs s)=true
 ·simp(disch:=omega)only[q,go_sem,seval]
  refine PureCall.b rfl (nu_ s hs _) ?_
  have hn:=er_ (bs s)
  have hq:=ih_ (bs s)
  have hq2:=id_ (bs s)
  have hkey:ch_ (bs s)=1::be8 (c1_ (bs s)):=by unfold ch_;rw[if_pos q]
  rw[hkey]at hk
  simp(disch:=omega)only[go_sem,seval,aA_,←hq,qb_]
  refine mR_ (c:=1) (by omega) ?_
  simp(disch:=omega)only[go_sem]
  refine ly_ (fun n t σ=>∃k:Nat,t 0=lq_ b∧t 4=.val (.int .u64 (c1_ (bs s)))∧t 5=.val (.int .i64 (56-8 * k))∧σ=Bd.of b ((l++[1])++(be8 (c1_ (bs s))).take k)∧n=8-k∧k≤8) 8 ?_ ?_
  ·exact⟨0,rfl,rfl,rfl,by simp,rfl,by omega⟩
  ·rintro J hJ n t σ ⟨k,t0,t4,t5,rfl,rfl,hk8⟩
   by_cases h8:k<8
   ·have hlt:(0:Int)≤56-8 * k:=by omega
    have hlen:((be8 (c1_ (bs s))).take k).length≤8:=by rw[length_take,dG_];omega
    simp(disch:=omega)only[t0,t4,t5,hlt,kI_,yO_,go_sem,seval]
    refine mR_ (by simp only[la_,lc_];omega) ?_
    simp(disch:=omega)only[t5,aA_,go_sem,seval]
    exact⟨8-(k+1),by omega,hJ _ _ _ ⟨k+1,by simp[upd,t0],by simp[upd,t4],by simp[upd];omega,by rw[pC_ _ _ h8];simp,rfl,by omega⟩⟩
   ·have hlt:¬ (0:Int)≤56-8 * k:=by omega
    simp(disch:=omega)only[t5,hlt,go_sem,↓reduceIte]
    rw[rv_ _ _ (by omega)]
    simpa using hk
 ·have q':dI_ (bs s)=false:=by simpa using q
  have hkey:ch_ (bs s)=2::(esc (bs s)++[0,0]):=by unfold ch_;rw[if_neg q]
  have he:=jd_ (bs s)
  rw[hkey]at hk
  simp(disch:=omega)only[q',go_sem,seval]
  refine mR_ (c:=2) (by omega) ?_
  simp(disch:=omega)only[go_sem,seval]
  refine PureCall.b rfl (by
   have:=iO_ (bs s) (by omega) []
   rw[fl_]at this
   exact this) ?_
  simp(disch:=omega)only[go_sem,seval]
  refine yV_ (by simp only[la_,lc_,ln_];omega) (fun r1=>?_)
  simp(disch:=omega)only[go_sem,seval]
  refine yV_ (by simp only[la_,lc_,ln_];omega) (fun r2=>?_)
  simp(disch:=omega)only[go_sem]
  simpa using hk
def gT_(xs:List ByteArray):List UInt8:=if bM_ xs=true then bW_ (bss xs)else []
theorem pF_(xs ys:List (List UInt8)):bW_ (xs++ys)=bW_ xs++bW_ ys:=by simp[bW_]
theorem jy_{xs:List ByteArray}(h:bM_ xs=true):xs.length≤4∧∀x∈xs,1≤x.size∧x.size≤24:=by
 simp only[bM_,Bool.and_eq_true,decide_eq_true_eq,all_eq_true,dE_]at h
 exact⟨by omega,fun x hx=>by have:=h.2 x hx;omega⟩
theorem hQ_:∀(xs:List ByteArray),(∀x∈xs,x.size≤24)→(bW_ (bss xs)).length≤57 * xs.length
 | [],_=>by simp[bW_,bss]
 | x::xs,h=>by
  have h1:=gU_ (bs x)
  have h2:=hQ_ xs (fun y hy=>h y (mem_cons_of_mem _ hy))
  have h3:=h x mem_cons_self
  rw[eN_]at h1
  rw[bss,map_cons,j4_,la_,lc_]
  simp only[bss]at h2
  simp only[bs]at h1
  omega
def yz_:LC :=
 .q [.o [.s 2 (.mov (.const (.string ⟨#[]⟩)))],.q [.o [.m 6 0,.c1 7 144 6,.nt 8 7],.k 8 (.q [.o [.s 2 (.mov (.const (.string ⟨#[]⟩)))],.ret]) .skip],.o [.s 3 (.alloc 199 (.agg #[.pointer none,.slice none 0 0]))],
 .q [.o [.m 9 0,.ll 10 9,.ki 11 0],.block 0 (.loop (.q [.o [.bb 12 .lss false 11 10],.k 12 .skip (.exit 0),.block 1 (.q [.o [.ia 13 1 9 11,.ln 14 13,.m 5 14],.o [.m 15 5,.c2 16 185 3 15]]),.o [.bk 17 .add false
 11 1,.m 11 17]]))],.o [.c1 18 186 3,.m 2 18],.ret]
def wl_:LF:=⟨1,19,yz_,[.tmp 2]⟩
theorem zG_:aC_ Tryz.prog Tryz.f145 wl_:=az_
theorem mL_(xs:List ByteArray)(hx:xs.length≤1048576)(h:List Row):PureCall Tryz.prog 145 [.list 0 1 (xs.map ak_)] h (.val (.string (txt (gT_ xs)))):=by
 refine jM_ (T:=199) (e:=5) rfl rfl ?_ h
 refine lB_ (by decide) mixed Tryz.func145 zG_ rfl ?_
 simp(disch:=omega)only[wl_,yz_,go_sem,seval]
 refine PureCall.b rfl (gm_ xs hx _) ?_
 by_cases q:bM_ xs=true
 case neg =>
  have q':bM_ xs=false:=by simpa using q
  simp(disch:=omega)only[q',go_sem,↓reduceIte]
  rw[gT_,if_neg q]
 obtain⟨h4,hm⟩:=jy_ q
 have hz:vH_=.agg #[.pointer none,.slice none 0 0]:=rfl
 simp(disch:=omega)only[q,←hz,go_sem,seval]
 refine fun b=>?_
 refine ly_ (fun n t σ=>∃k:Nat,t 3=lq_ b∧t 9=.list 0 1 (xs.map ak_)∧t 10=.val (.int .i64 xs.length)∧t 11=.val (.int .i64 k)∧σ=Bd.of b (bW_ (bss (xs.take k)))∧n=xs.length-k∧k≤xs.length) xs.length ?_ ?_
 ·exact⟨0,rfl,rfl,rfl,rfl,rfl,rfl,by omega⟩
 ·rintro J hJ n t σ ⟨k,t3,t9,t10,t11,rfl,rfl,hk⟩
  by_cases hlt:k<xs.length
  ·have hl1:=hQ_ (xs.take k) (fun x hx'=>(hm x (mem_of_mem_take hx')).2)
   have hl2:(xs.take k).length≤4:=by rw[length_take];omega
   simp(disch:=omega)only[t3,t9,t10,t11,hlt,go_sem,seval]
   refine oG_ (by have:=hm _ (getElem_mem hlt);omega) (by omega) ?_
   simp(disch:=omega)only[t11,aA_,go_sem,seval]
   refine⟨xs.length-(k+1),by omega,hJ _ _ _ ⟨k+1,by simp[upd,t3],by simp[upd,t9],by simp[upd,t10],by simp[upd],?_,rfl,by omega⟩⟩
   rw[take_succ_eq_append_getElem hlt,bss,bss,map_append,pF_]
   simp[bW_]
  ·simp(disch:=omega)only[t3,t10,t11,hlt,go_sem,seval]
   rw[take_of_length_le (by omega)]
   refine v0_ ?_
   simp(disch:=omega)only[go_sem,↓reduceIte]
   rw[gT_,if_pos q]
def kr_:Option (List UInt8×List UInt8)→AV
 | some (t,r)=>.tup [.val (.string (txt t)),.val (.string (txt r)),.val (.bool true)]
 | none=>.tup [.val (.string (txt [])),.val (.string (txt [])),.val (.bool false)]
def zC_:LC :=
 .q [.o [.s 2 (.mov (.const (.string ⟨#[]⟩))),.s 3 (.mov (.const (.string ⟨#[]⟩))),.f 4],.o [.s 5 (.alloc 199 (.agg #[.pointer none,.slice none 0 0]))],.q [.o [.ki 6 0],.block 0 (.loop (.q [.q [.o [.m 7 6,.bk 8
 .add false 7 1,.m 9 0,.s 10 (.lenStr (.tmp 9)),.bb 11 .lss false 8 10],.k 11 .skip (.exit 0)],.block 1 (.q [.q [.o [.m 14 0,.m 15 6,.s 16 (.indexStr (.tmp 14) (.tmp 15)),.s 17 (.bin .neq false (.tmp 16) (.const
 (.int .u8 0)))],.k 17 (.q [.o [.m 18 0,.m 19 6,.s 20 (.indexStr (.tmp 18) (.tmp 19)),.c2 21 205 5 20],.exit 1]) .skip],.o [.m 22 0,.m 23 6,.bk 24 .add false 23 1,.s 25 (.indexStr (.tmp 22) (.tmp 24))],.block 2
 (.q [.o [.s 27 (.bin .eql false (.tmp 25) (.const (.int .u8 0))),.m 26 27],.k 26 (.q [.dops [.c1 28 186 5,.m 29 0,.m 30 6,.bk 31 .add false 30 2,.s 32 (.sliceStr (.tmp 29) (some (.tmp 31)) none),.m 2 28,.m 3 32,
 .t 4],.ret]) (.q [.o [.s 34 (.bin .eql false (.tmp 25) (.const (.int .u8 255))),.m 33 34],.k 33 (.q [.o [.s 35 (.call 205 [.tmp 5,.const (.int .u8 0)])],.o [.m 36 6,.bk 37 .add false 36 1,.m 6 37]]) (.q [.o [.s 2
 (.mov (.const (.string ⟨#[]⟩))),.s 3 (.mov (.const (.string ⟨#[]⟩))),.f 4],.ret])])])]),.o [.m 12 6,.bk 13 .add false 12 1,.m 6 13]]))],.o [.s 2 (.mov (.const (.string ⟨#[]⟩))),.s 3 (.mov (.const (.string
 ⟨#[]⟩))),.f 4],.ret]
def wE_:LF:=⟨1,38,zC_,[.tmp 2,.tmp 3,.tmp 4]⟩
theorem xV_:aC_ Tryz.prog Tryz.f159 wE_:=az_
theorem kT_(l:List UInt8)(hl:l.length≤1048576)(h:List Row):PureCall Tryz.prog 159 [.val (.string (txt l))] h (kr_ (cd_ l [])):=by
 refine jM_ (T:=199) (e:=5) (by cases cd_ l []<;>rfl) rfl ?_ h
 refine lB_ (by decide) mixed Tryz.func159 xV_ rfl ?_
 have hz:vH_=.agg #[.pointer none,.slice none 0 0]:=rfl
 simp(disch:=omega)only[wE_,zC_,←hz,go_sem]
 refine fun b=>?_
 refine ly_ (fun n t σ=>∃(i:Nat) (acc:List UInt8),t 0=.val (.string (txt l))∧t 5=lq_ b∧t 6=.val (.int .i64 i)∧σ=Bd.of b (acc)∧n=l.length-i∧i≤l.length∧acc.length≤i∧cd_ l []=cd_ (l.drop i) acc) l.length ?_ ?_
 ·exact⟨0,[],rfl,rfl,rfl,rfl,rfl,by omega,Nat.le_refl _,rfl⟩
 ·rintro J hJ n t σ ⟨i,acc,t0,t5,t6,rfl,rfl,hi,hac,hS⟩
  by_cases hlt:i+1<l.length
  ·have hlt':(i:Int)+1<l.length:=by omega
   have hlt0:i<l.length:=by omega
   have ei:(i:Int)+1=((i+1:Nat):Int):=by omega
   have ei2:(i:Int)+2=((i+2:Nat):Int):=by omega
   rw[mX_ l acc i hlt]at hS
   by_cases q:l[i]=0
   ·rw[if_pos q]at hS
    have q':((l[i].toNat:Int)=0)=True:=by simp[q]
    by_cases q1:l[i+1]=0
    ·rw[if_pos q1]at hS
     have q1':((l[i+1].toNat:Int)=0)=True:=by simp[q1]
     simp(disch:=omega)only[t0,t5,t6,ei,ei2,hlt,q',q1',aA_,go_sem,seval]
     refine⟨_,v0_ ⟨rfl,rfl⟩,?_⟩
     rw[hS,take_length];rfl
    ·rw[if_neg q1]at hS
     have q1':((l[i+1].toNat:Int)=0)=False:=by rw[eq_iff_iff,iff_false];intro e;exact q1 (UInt8.toNat_inj.1 (by have h2:(0:UInt8).toNat=0:=rfl;omega))
     by_cases q2:l[i+1]=255
     ·rw[if_pos q2]at hS
      have q2':((l[i+1].toNat:Int)=255)=True:=by simp[q2]
      simp(disch:=omega)only[t0,t5,t6,ei,hlt,q',q1',q2',aA_,go_sem,seval]
      refine mR_ (c:=0) (by omega) ?_
      simp(disch:=omega)only[t6,ei,aA_,go_sem,seval]
      exact⟨l.length-(i+2),by omega,hJ _ _ _ ⟨i+2,acc++[0],by simp[upd,t0],by simp[upd,t5],by simp[upd];omega,rfl,rfl,by omega,by simp;omega,hS⟩⟩
     ·rw[if_neg q2]at hS
      have q2':((l[i+1].toNat:Int)=255)=False:=by rw[eq_iff_iff,iff_false];intro e;exact q2 (UInt8.toNat_inj.1 (by have h2:(255:UInt8).toNat=255:=rfl;omega))
      simp(disch:=omega)only[t0,t6,ei,hlt,q',q1',q2',aA_,go_sem,seval]
      rw[hS];rfl
   ·rw[if_neg q]at hS
    have q':((l[i].toNat:Int)=0)=False:=by rw[eq_iff_iff,iff_false];intro e;exact q (UInt8.toNat_inj.1 (by have h2:(0:UInt8).toNat=0:=rfl;omega))
    simp(disch:=omega)only[t0,t5,t6,ei,hlt,q',aA_,go_sem,seval]
    refine mR_ (c:=l[i]) (by omega) ?_
    simp(disch:=omega)only[t6,ei,aA_,go_sem,seval]
    exact⟨l.length-(i+1),by omega,hJ _ _ _ ⟨i+1,acc++[l[i]],by simp[upd,t0],by simp[upd,t5],by simp[upd];try omega,rfl,rfl,by omega,by simp;omega,hS⟩⟩
  ·have hlt':¬ (i:Int)+1<l.length:=by omega
   simp(disch:=omega)only[t0,t6,hlt',aA_,go_sem,seval]
   rw[hS,ol_ l acc i (by omega)];rfl
def nh_(l:List UInt8):Option (List UInt8×List UInt8):=if l.length<8 then none else if 2000000000000000000<b8_ 0 (l.take 8)then none else some (gh_ ((b8_ 0 (l.take 8):Int)-1000000000000000000),l.drop 8)
theorem Bb_(q:Bool)(a:Int):bd_ .shl q (.val (.int .u64 a)) (.val (.int .u64 8))=some (.val (.int .u64 (IntKind.u64.wrap (a * 256)))):=by
 rw[rg_ _ _ _ _ _ (by decide)];rfl
theorem oi_(l:List UInt8)(k:Nat)(h:k<l.length):b8_ 0 (l.take (k+1))=b8_ 0 (l.take k) * 256+l[k].toNat:=by
 rw[take_succ_eq_append_getElem h,tq_]
theorem ku_(l:List UInt8)(k:Nat)(h:k≤7):b8_ 0 (l.take k)<72057594037927936:=by
 have h1:=nD_ (l.take k) 0
 have h2:(l.take k).length≤7:=by rw[length_take];omega
 have h3:256 ^ (l.take k).length≤256 ^ 7:=Nat.pow_le_pow_right (by decide) h2
 omega
theorem jJ_(l:List UInt8):b8_ 0 (l.take 8)<18446744073709551616:=by
 have h1:=nD_ (l.take 8) 0
 have h2:(l.take 8).length≤8:=by rw[length_take];omega
 have h3:256 ^ (l.take 8).length≤256 ^ 8:=Nat.pow_le_pow_right (by decide) h2
 omega
theorem rF_(n:Int):eW_ n=gh_ n:=by
 unfold eW_ gh_
 by_cases h:iN_ n=true
 ·rw[if_pos h,if_pos ((hm_ n).1 h)]
 ·rw[if_neg h,if_neg (fun q=>h ((hm_ n).2 q))]
def x2_:LC :=
 .q [.o [.s 2 (.mov (.const (.string ⟨#[]⟩))),.s 3 (.mov (.const (.string ⟨#[]⟩))),.f 4],.q [.o [.m 7 0,.s 8 (.lenStr (.tmp 7)),.bk 9 .lss false 8 8],.k 9 (.q [.o [.s 2 (.mov (.const (.string ⟨#[]⟩))),.s 3 (.mov
 (.const (.string ⟨#[]⟩))),.f 4],.ret]) .skip],.o [.s 5 (.mov (.const (.int .u64 0)))],.q [.o [.ki 10 0],.block 0 (.loop (.q [.o [.bk 11 .lss false 10 8],.k 11 .skip (.exit 0),.block 1 (.q [.o [.m 12 10,.m 6 12],
 .o [.m 13 5,.s 14 (.bin .shl false (.tmp 13) (.const (.int .u64 8))),.m 15 0,.m 16 6,.s 17 (.indexStr (.tmp 15) (.tmp 16)),.s 18 (.convInt .u64 (.tmp 17)),.bb 19 .add false 14 18,.m 5 19]]),.o [.bk 20 .add false
 10 1,.m 10 20]]))],.q [.o [.m 21 5,.s 22 (.bin .gtr false (.tmp 21) (.const (.int .u64 2000000000000000000)))],.k 22 (.q [.o [.s 2 (.mov (.const (.string ⟨#[]⟩))),.s 3 (.mov (.const (.string ⟨#[]⟩))),.f 4],.ret])
 .skip],.dops [.m 23 5,.s 24 (.convInt .i64 (.tmp 23)),.bk 25 .sub false 24 1000000000000000000,.c1 26 204 25,.m 27 0,.s 28 (.sliceStr (.tmp 27) (some (.const (.int .i64 8))) none),.m 2 26,.m 3 28,.t 4],.ret]
def vT_:LF:=⟨1,29,x2_,[.tmp 2,.tmp 3,.tmp 4]⟩
theorem zj_:aC_ Tryz.prog Tryz.f158 vT_:=az_
theorem kW_(l:List UInt8)(hl:l.length≤1048576)(h:List Row):PureCall Tryz.prog 158 [.val (.string (txt l))] h (kr_ (nh_ l)):=by
 refine av_ mixed Tryz.func158 zj_ rfl rfl ?_ h
 simp(disch:=omega)only[vT_,x2_,go_sem,seval]
 by_cases h8:(l.length:Int)<8
 ·simp(disch:=omega)only[h8,go_sem,seval]
  rw[nh_,if_pos (by omega)]
  exact⟨2,rfl⟩
 simp(disch:=omega)only[h8,go_sem]
 refine a4_ (fun n t h=>∃k:Nat,t 0=.val (.string (txt l))∧t 5=.val (.int .u64 (b8_ 0 (l.take k)))∧t 10=.val (.int .i64 k)∧h=[]∧n=8-k∧k≤8) 8 ?_ ?_
 ·exact⟨0,rfl,rfl,rfl,rfl,rfl,by omega⟩
 rintro J hJ n t h ⟨k,t0,t5,t10,rfl,rfl,hk⟩
 by_cases hlt:k<8
 ·have hkl:k<l.length:=by omega
  have hkI:(k:Int)<8:=by omega
  have hb:=ku_ l k (by omega)
  have hu:=mm_ l[k]
  simp(disch:=omega)only[t0,t5,t10,hkI,Bb_,uz_,qb_,aA_,go_sem,seval]
  exact⟨8-(k+1),by omega,hJ _ _ _ ⟨k+1,by simp[upd,t0],by simp only[upd];rw[oi_ l k hkl];simp,by simp[upd],rfl,rfl,by omega⟩⟩
 ·have hk8:k=8:=by omega
  have hkI:¬ (k:Int)<8:=by omega
  rw[hk8]at t5
  have hb:=jJ_ l
  by_cases hg:(2000000000000000000:Int)<(b8_ 0 (l.take 8):Nat)
  ·simp(disch:=omega)only[t5,t10,hkI,hg,go_sem,seval]
   rw[nh_,if_neg (by omega),if_pos (by omega)]
   exact⟨2,rfl⟩
  ·simp(disch:=omega)only[t0,t5,t10,hkI,hg,aA_,go_sem,seval]
   refine PureCall.q (hY_ _ _) ?_
   rw[nh_,if_neg (by omega),if_neg (by omega),rF_,take_length]
   exact⟨2,rfl⟩
abbrev dV_(out:List (List UInt8)):List (List AV):=(out.map txt).map ak_
theorem hB_(out:List (List UInt8)):bss (out.map txt)=out:=by
 rw[bss,map_map]
 conv=>rhs;rw[←map_id out]
 exact map_congr_left fun x _=>bg_ x
theorem dS_(out:List (List UInt8)):bM_ (out.map txt)=dJ_ out:=by
 rw[Bool.eq_iff_iff]
 simp only[bM_,dJ_,dE_,gZ_,length_map,all_map,Bool.and_eq_true,decide_eq_true_eq,all_eq_true,Function.comp,bb_]
 constructor
 ·rintro⟨h1,h2⟩
  exact⟨by omega,fun x hx=>by have:=h2 x hx;omega⟩
 ·rintro⟨h1,h2⟩
  exact⟨by omega,fun x hx=>by have:=h2 x hx;omega⟩
theorem fG_(l:List UInt8)(h:0<l.length):dz_ l=if l[0]=1 then nh_ (l.drop 1)else if l[0]=2 then cd_ (l.drop 1) []else none:=by
 cases l with
 | nil=>simp at h
 | cons b l=>rfl
theorem iu_:kr_ none=.tup [.val (.string (txt [])),.val (.string (txt [])),.val (.bool false)]:=rfl
theorem iz_(t r:List UInt8):kr_ (some (t,r))=.tup [.val (.string (txt t)),.val (.string (txt r)),.val (.bool true)]:=rfl
def cf_(s:ByteArray):List ByteArray×Bool :=
 match ff_ dz_ (bs s)with
 | some xs=>(xs.map txt,true)
 | none=>([],false)
abbrev mC_(p:List ByteArray×Bool):AV:=.tup [.list 0 1 (p.1.map ak_),.val (.bool p.2)]
theorem kA_{s:ByteArray}(h:cz_ dz_ 5 (bs s) []=none):cf_ s=([],false):=by
 rw[cf_,ff_,h]
theorem nx_{s:ByteArray}{out:List (List UInt8)}{left:List UInt8}(h:cz_ dz_ 5 (bs s) []=some (out,left))(q:¬ (left=[]∧dJ_ out=true∧bW_ out=bs s)):cf_ s=([],false):=by
 rw[cf_,ff_,h];simp only;rw[if_neg q]
theorem uT_{s:ByteArray}{out:List (List UInt8)}(h:cz_ dz_ 5 (bs s) []=some (out,[]))(h2:dJ_ out=true)(h3:bW_ out=bs s):cf_ s=(out.map txt,true):=by
 simp[cf_,ff_,h,h2,h3]
theorem to_{out:List (List UInt8)}(h:dJ_ out=true):out.length≤4:=by
 simp only[dJ_,Bool.and_eq_true,decide_eq_true_eq]at h;exact h.1
theorem ox_(out:List (List UInt8)):∀e∈dV_ out,e.all AV.flat=true:=by
 intro e he
 obtain⟨x,_,q⟩:=mem_map.1 he;subst q;rfl
theorem o7_(h0:List Row)(out:List (List UInt8))(rest:List Row):[AV.own h0.length out.length].mapM (AW.resolve (h0++⟨9,1,dV_ out⟩::rest) 2)=some [.list 0 1 (dV_ out)] :=
 fC_ (gk_ (n:=0) (r:=⟨9,1,dV_ out⟩) (by rw[iP_];rfl) (by simp) (ox_ out))
theorem e1_{base l:Nat}{H:List Row}{E:Tag}{out:List ByteArray}(hl:H[l]?=some ⟨E,1,out.map ak_⟩)(hb:base≤l):aP_ base (l+1) H (.own l out.length) (.list 0 1 (out.map ak_)) :=
 aP_.mkown (lo:=l+1) (hi:=l+1) (b4_.ofVals _ _ _ _ (by
  intro e he c hc
  obtain⟨x,_,q⟩:=mem_map.1 he;subst q
  simp only[ak_,mem_singleton]at hc
  exact⟨_,hc⟩)) hl (by simp) hb (Nat.lt_succ_self _) (Nat.le_refl _)
theorem cJ_{lo hi:Nat}{H:List Row}{a r:AV}(h:aP_ lo hi H a r)(hlh:lo≤hi)(v:Value):h1_ lo H (.tup [a,.val v]) (.tup [r,.val v]) :=
 (aP_.tup (aU_.cons h (aU_.val v (aU_.nil hi hi H)) ⟨hlh,Nat.le_refl _⟩)).fresh
theorem tB_{out:List (List UInt8)}(h:dJ_ out=true):gT_ (out.map txt)=bW_ out:=by
 rw[gT_,dS_,if_pos h,hB_]
theorem nR_(take:List UInt8→Option (List UInt8×List UInt8))(f:Nat)(l:List UInt8)(out:List (List UInt8))(h:l≠[]):cz_ take (f+1) l out=match take l with
 | none=>none
 | some (t,r)=>cz_ take f r (out++[t]):=by
 rw[cz_,if_neg h];cases take l<;>rfl
theorem k9_(l:List UInt8):(txt l=txt [])=(l=[]):=rb_ l []
def x0_:LC :=
 .q [.o [.nl 2,.f 3],.o [.s 8 (.buildSlice 9 1 (.string ⟨#[]⟩) 0 []),.m 9 0,.m 4 8,.m 5 9],.block 0 (.loop (.q [.q [.o [.m 10 5,.s 11 (.bin .neq false (.tmp 10) (.const (.string ⟨#[]⟩))),.m 12 11,.gm 13 12 true
 4,.g 14 12 true (.lenSl (.tmp 13)),.g 15 12 true (.bin .leq false (.tmp 14) (.const (.int .i64 4))),.pf 16 12 15],.k 16 .skip (.exit 0)],.block 1 (.q [.o [.s 6 (.mov (.const (.string ⟨#[]⟩)))],.o [.f 7],.q [.o [.m
 17 5,.s 18 (.indexStr (.tmp 17) (.const (.int .i64 0)))],.block 2 (.q [.o [.s 20 (.bin .eql false (.tmp 18) (.const (.int .u8 1))),.m 19 20],.k 19 (.o [.m 22 5,.s 23 (.sliceStr (.tmp 22) (some (.const (.int .i64
 1))) none),.c1 24 158 23,.m 21 24,.ex 25 21 0,.ex 26 21 1,.ex 27 21 2,.m 6 25,.m 5 26,.m 7 27]) (.q [.o [.s 29 (.bin .eql false (.tmp 18) (.const (.int .u8 2))),.m 28 29],.k 28 (.o [.m 31 5,.s 32 (.sliceStr
 (.tmp 31) (some (.const (.int .i64 1))) none),.c1 33 159 32,.m 30 33,.ex 34 30 0,.ex 35 30 1,.ex 36 30 2,.m 6 34,.m 5 35,.m 7 36]) .skip])])],.q [.o [.m 37 7,.nt 38 37],.k 38 (.q [.o [.nl 2,.f 3],.ret])
 .skip],.o [.m 39 4,.m 40 6,.s 41 (.buildSlice 9 1 (.string ⟨#[]⟩) 1 [(0,.tmp 40)]),.ap 42 9 1 16 39 41,.m 4 42]])])),.q [.o [.m 43 4,.c1 44 144 43,.nt 45 44,.m 46 45,.gm 47 46 false 4,.gc 48 46 false 145 47,
 .gm 49 46 false 0,.g 50 46 false (.bin .neq false (.tmp 48) (.tmp 49)),.pt 51 46 50],.k 51 (.q [.o [.nl 2,.f 3],.ret]) .skip],.o [.m 52 4,.m 2 52,.t 3],.ret]
def vN_:LF:=⟨1,53,x0_,[.tmp 2,.tmp 3]⟩
theorem zw_:aC_ Tryz.prog Tryz.f127 vN_:=az_
theorem kb_(s:ByteArray)(hs:s.size≤1048576):eV_ Tryz.prog 127 [.val (.string s)] (mC_ (cf_ s)) (fun a=>∃b q,a=.tup [b,.val (.bool q)]):=by
 refine p6_ mixed Tryz.func127 zw_ rfl (fun h0=>?_)
 have hbl:=eN_ s
 simp(disch:=omega)only[vN_,x0_,go_sem,seval]
 refine a4_ (fun n t h=>∃(out:List (List UInt8)) (left:List UInt8) (rest:List Row),t 0=.val (.string s)∧t 4=.own h0.length out.length∧t 5=.val (.string (txt left))∧h=h0++⟨9,1,dV_ out⟩::rest∧n=5-out.length∧out.length≤5∧left.length≤s.size∧cz_ dz_ 5 (bs s) []=cz_ dz_ (5-out.length) left out) 5 ?_ ?_
 ·exact⟨[],bs s,[],rfl,rfl,by rw[fl_];rfl,rfl,rfl,by simp,Nat.le_of_eq (eN_ s),rfl⟩
 rintro J hJ n t h ⟨out,left,rest,t0,t4,t5,rfl,rfl,ho,hle,hS⟩
 have fl:(dV_ out).length=out.length:=by simp
 have hA:=o7_ h0 out rest
 by_cases q0:left=[]
 ·subst q0
  have hR:cz_ dz_ 5 (bs s) []=some (out,[]):=by
   rw[hS];cases 5-out.length with
   | zero=>rw[cz_]
   | succ f=>rw[cz_,if_pos rfl]
  have q0':(txt ([]:List UInt8)=txt [])=True:=by simp
  simp(disch:=omega)only[t4,t5,fl,bj_,go_sem,seval]
  refine PureCall.call (AW.frozen (gm_ (out.map txt) (by simp;omega)) hA) ?_
  by_cases s1:dJ_ out=true
  case neg =>
   have s1':bM_ (out.map txt)=false:=by rw[dS_];simpa using s1
   simp(disch:=omega)only[t4,s1',bj_,go_sem,seval]
   rw[nx_ hR (fun q=>s1 q.2.1)]
   exact⟨_,rfl,cJ_ (aP_.mknil _ _ _ 1) (Nat.le_refl _) _,_,_,rfl⟩
  have s1':bM_ (out.map txt)=true:=by rw[dS_];exact s1
  simp(disch:=omega)only[t4,s1',go_sem,seval]
  refine PureCall.call (AW.frozen (mL_ (out.map txt) (by simp;omega)) hA) ?_
  rw[tB_ s1]
  by_cases s2:bW_ out=bs s
  case neg =>
   have s2':(txt (bW_ out)=s)=False:=by rw[eq_iff_iff,iff_false];intro e;exact s2 (by rw[←e];exact(bg_ _).symm)
   simp(disch:=omega)only[t0,t4,s2',bj_,go_sem,seval]
   rw[nx_ hR (fun q=>s2 q.2.2)]
   exact⟨_,rfl,cJ_ (aP_.mknil _ _ _ 1) (Nat.le_refl _) _,_,_,rfl⟩
  have s2':(txt (bW_ out)=s)=True:=by rw[s2,fl_];simp
  simp(disch:=omega)only[t0,t4,s2',bj_,go_sem,seval]
  rw[uT_ hR s1 s2]
  have hz:=cJ_ (e1_ (base:=h0.length) (l:=h0.length) (E:=9) (out:=out.map txt) (H:=h0++⟨9,1,dV_ out⟩::rest) (by rw[iP_];rfl) (Nat.le_refl _)) (by omega) (.bool true)
  rw[length_map]at hz
  exact⟨_,rfl,hz,_,_,rfl⟩
 ·have hpos:0<left.length:=by cases left with
   | nil=>exact absurd rfl q0
   | cons b l=>simp
  have q0':(txt left=txt [])=False:=by rw[k9_];simp[q0]
  by_cases q4:out.length≤4
  ·have q4':(out.length:Int)≤4:=by omega
   have e5:5-out.length=(4-out.length)+1:=by omega
   rw[e5,nR_ dz_ (4-out.length) left out q0]at hS
   have hdl:(left.drop 1).length≤1048576:=by rw[length_drop];omega
   by_cases q1:left[0]=1
   ·have q1':((left[0].toNat:Int)=1)=True:=by simp[q1]
    simp(disch:=omega)only[t4,t5,q0',q4',q1',fl,take_length,bj_,go_sem,seval]
    have hc:=fun h=>kW_ (left.drop 1) hdl h
    cases hn:nh_ (left.drop 1)with
    | none =>
     rw[hn,iu_]at hc
     rw[fG_ left hpos,if_pos q1,hn]at hS
     refine PureCall.call (hc _) ?_
     simp(disch:=omega)only[t4,fl,bj_,go_sem,seval]
     rw[kA_ (by rw[hS])]
     exact⟨_,rfl,cJ_ (aP_.mknil _ _ _ 1) (Nat.le_refl _) _,_,_,rfl⟩
    | some p =>
     obtain⟨x,r⟩:=p
     rw[hn,iz_]at hc
     have hlen:=n1_ left x r (by rw[fG_ left hpos,if_pos q1,hn])
     rw[fG_ left hpos,if_pos q1,hn]at hS
     refine PureCall.call (hc _) ?_
     simp(disch:=omega)only[t4,fl,bj_,go_sem,seval]
     refine⟨by omega,by omega,?_⟩
     try simp(disch:=omega)only[t0,t4,t5,q0',q4',fl,bj_,go_sem,seval]
     exact⟨5-(out.length+1),by omega,hJ _ _ _ ⟨out++[x],r,rest++[⟨9,1,[[.val (.string (txt x))]]⟩],by simp[upd,t0],by simp[upd],by simp[upd],by simp[ak_],by simp,by simp;omega,by omega,by simpa[Nat.sub_sub]using hS⟩⟩
   ·have q1':((left[0].toNat:Int)=1)=False:=by rw[eq_iff_iff,iff_false];intro e;exact q1 (UInt8.toNat_inj.1 (by have h2:(1:UInt8).toNat=1:=rfl;omega))
    by_cases q2:left[0]=2
    ·have q2':((left[0].toNat:Int)=2)=True:=by simp[q2]
     simp(disch:=omega)only[t4,t5,q0',q4',q1',q2',fl,take_length,bj_,go_sem,seval]
     have hc:=fun h=>kT_ (left.drop 1) hdl h
     cases hn:cd_ (left.drop 1) []with
     | none =>
      rw[hn,iu_]at hc
      rw[fG_ left hpos,if_neg q1,if_pos q2,hn]at hS
      refine PureCall.call (hc _) ?_
      simp(disch:=omega)only[t4,fl,bj_,go_sem,seval]
      rw[kA_ (by rw[hS])]
      exact⟨_,rfl,cJ_ (aP_.mknil _ _ _ 1) (Nat.le_refl _) _,_,_,rfl⟩
     | some p =>
      obtain⟨x,r⟩:=p
      rw[hn,iz_]at hc
      have hlen:=n1_ left x r (by rw[fG_ left hpos,if_neg q1,if_pos q2,hn])
      rw[fG_ left hpos,if_neg q1,if_pos q2,hn]at hS
      refine PureCall.call (hc _) ?_
      simp(disch:=omega)only[t4,fl,bj_,go_sem,seval]
      refine⟨by omega,by omega,?_⟩
      try simp(disch:=omega)only[t0,t4,t5,q0',q4',fl,bj_,go_sem,seval]
      exact⟨5-(out.length+1),by omega,hJ _ _ _ ⟨out++[x],r,rest++[⟨9,1,[[.val (.string (txt x))]]⟩],by simp[upd,t0],by simp[upd],by simp[upd],by simp[ak_],by simp,by simp;omega,by omega,by simpa[Nat.sub_sub]using hS⟩⟩
    ·have q2':((left[0].toNat:Int)=2)=False:=by rw[eq_iff_iff,iff_false];intro e;exact q2 (UInt8.toNat_inj.1 (by have h2:(2:UInt8).toNat=2:=rfl;omega))
     rw[fG_ left hpos,if_neg q1,if_neg q2]at hS
     simp(disch:=omega)only[t4,t5,q0',q4',q1',q2',fl,take_length,bj_,go_sem,seval]
     rw[kA_ (by rw[hS])]
     exact⟨_,rfl,cJ_ (aP_.mknil _ _ _ 1) (Nat.le_refl _) _,_,_,rfl⟩
  ·have q4':¬ (out.length:Int)≤4:=by omega
   have e0:5-out.length=0:=by omega
   have hR:cz_ dz_ 5 (bs s) []=some (out,left):=by rw[hS,e0,cz_]
   have s1:¬ dJ_ out=true:=fun q=>q4 (to_ q)
   simp(disch:=omega)only[t4,t5,q0',q4',fl,bj_,go_sem,seval]
   refine PureCall.call (AW.frozen (gm_ (out.map txt) (by simp;omega)) hA) ?_
   have s1':bM_ (out.map txt)=false:=by rw[dS_];simpa using s1
   simp(disch:=omega)only[t4,s1',bj_,go_sem,seval]
   rw[nx_ hR (fun q=>s1 q.2.1)]
   exact⟨_,rfl,cJ_ (aP_.mknil _ _ _ 1) (Nat.le_refl _) _,_,_,rfl⟩
theorem ii_(s:ByteArray)(hs:s.size≤1048576)(h:List Row):PureCall Tryz.prog 127 [.val (.string s)] h (mC_ (cf_ s)):=(kb_ s hs).pure rfl h
theorem As_(q:Bool)(a:Int):bd_ .shl q (.val (.int .i64 a)) (.val (.int .u64 8))=some (.val (.int .i64 (IntKind.i64.wrap (a * 256)))):=by
 rw[rg_ _ _ _ _ _ (by decide)];rfl
theorem or8(q:Bool)(x b:Nat)(h:b<256)(hx:x<72057594037927936):bd_ .or q (.val (.int .i64 (IntKind.i64.wrap ((IntKind.i64.wrap (x:Int)) * 256)))) (.val (.int .i64 (b:Int)))=some (.val (.int .i64 (IntKind.i64.wrap ((x * 256+b:Nat):Int)))):=by
 have h8:(2:Int) ^ (min (8:Int).toNat 64)=256:=by decide
 have:=wW_ x b h (by omega)
 rw[h8]at this
 rw[wX_,this,Nat.mod_eq_of_lt (by omega)]
theorem A7_(q:Bool)(x b:Nat)(h:b<256)(hx:x<72057594037927936):bd_ .or q (.val (.int .i64 (IntKind.i64.wrap ((x:Int) * 256)))) (.val (.int .i64 (b:Int)))=some (.val (.int .i64 (IntKind.i64.wrap ((x * 256+b:Nat):Int)))):=by
 have:=or8 q x b h hx
 rwa [aA_ (n:=(x:Int)) (by omega) (by omega)]at this
def zz_:LC :=
 .q [.o [.ki 2 0],.o [.ki 3 0],.q [.o [.ki 4 0],.block 0 (.loop (.q [.q [.o [.m 5 4,.bk 6 .lss false 5 8],.k 6 .skip (.exit 0)],.block 1 (.o [.m 9 3,.s 10 (.bin .shl false (.tmp 9) (.const (.int .u64 8))),.m 11 0,
 .m 12 4,.s 13 (.indexStr (.tmp 11) (.tmp 12)),.s 14 (.convInt .i64 (.tmp 13)),.bb 15 .or false 10 14,.m 3 15]),.o [.m 7 4,.bk 8 .add false 7 1,.m 4 8]]))],.o [.m 16 3,.m 2 16],.ret]
def wc_:LF:=⟨1,17,zz_,[.tmp 2]⟩
theorem yu_:aC_ Tryz.prog Tryz.f202 wc_:=az_
theorem no_(l:List UInt8)(hl:l.length=8)(h:List Row):PureCall Tryz.prog 202 [.val (.string (txt l))] h (.val (.int .i64 (IntKind.i64.wrap (b8_ 0 l)))):=by
 refine av_ mixed Tryz.func202 yu_ rfl rfl ?_ h
 simp(disch:=omega)only[wc_,zz_,go_sem]
 refine a4_ (fun n t h=>∃k:Nat,t 0=.val (.string (txt l))∧t 3=.val (.int .i64 (IntKind.i64.wrap (b8_ 0 (l.take k))))∧t 4=.val (.int .i64 k)∧h=[]∧n=8-k∧k≤8) 8 ?_ ?_
 ·exact⟨0,rfl,by rw[take_zero,pv_];rfl,rfl,rfl,rfl,by omega⟩
 rintro J hJ n t h ⟨k,t0,t3,t4,rfl,rfl,hk⟩
 by_cases hlt:k<8
 ·have hkl:k<l.length:=by omega
  have hkI:(k:Int)<8:=by omega
  have hb:=ku_ l k (by omega)
  have hu:=mm_ l[k]
  simp(disch:=omega)only[t0,t3,t4,hkI,As_,A7_,aA_,go_sem,seval]
  exact⟨8-(k+1),by omega,hJ _ _ _ ⟨k+1,by simp[upd,t0],by rw[oi_ l k hkl];simp[upd],by simp[upd],rfl,rfl,by omega⟩⟩
 ·have hkI:¬ (k:Int)<8:=by omega
  simp(disch:=omega)only[t3,t4,hkI,go_sem,seval]
  rw[take_of_length_le (by omega)]
  exact⟨1,rfl⟩
theorem t6_(l:List UInt8)(h:0<l.length):dh_ l=if l[0]=1∧9≤l.length then(if 1≤b8_ 0 ((l.drop 1).take 8)∧b8_ 0 ((l.drop 1).take 8)≤1999999999999999999 then some (a3_ ((b8_ 0 ((l.drop 1).take 8):Int)-1000000000000000000),(l.drop 1).drop 8)else none)else if l[0]=2 then cd_ (l.drop 1) []else none:=by
 cases l with
 | nil=>simp at h
 | cons b l =>
  have e:(9≤(b::l).length)=(8≤l.length):=by simp
  rw[dh_]
  simp only[e,getElem_cons_zero,drop_succ_cons,drop_zero]
theorem qA_(N:Nat)(h:N<18446744073709551616):ba_ (IntKind.i64.wrap (N:Int)) 1 1999999999999999999=decide (1≤N∧N≤1999999999999999999):=by
 rw[ba_,IntKind.wrap_i64,Bool.eq_iff_iff]
 simp only[Bool.and_eq_true,decide_eq_true_eq]
 omega
def Ah_:LC :=
 .q [.o [.s 2 (.mov (.const (.string ⟨#[]⟩))),.s 3 (.mov (.const (.string ⟨#[]⟩))),.f 4],.q [.o [.m 8 0,.s 9 (.indexStr (.tmp 8) (.const (.int .i64 0))),.s 10 (.bin .eql false (.tmp 9) (.const (.int .u8 1))),.m 11
 10,.gm 12 11 true 0,.g 13 11 true (.lenStr (.tmp 12)),.g 14 11 true (.bin .geq false (.tmp 13) (.const (.int .i64 9))),.pf 15 11 14],.k 15 (.q [.o [.m 16 0,.s 17 (.sliceStr (.tmp 16) (some (.const (.int .i64 1)))
 (some (.const (.int .i64 9)))),.c1 18 202 17,.m 5 18],.q [.o [.m 19 5,.s 20 (.call 57 [.tmp 19,.const (.int .i64 1),.const (.int .i64 1999999999999999999)]),.nt 21 20],.k 21 (.q [.o [.s 2 (.mov (.const (.string
 ⟨#[]⟩))),.s 3 (.mov (.const (.string ⟨#[]⟩))),.f 4],.ret]) .skip],.dops [.m 22 5,.bk 23 .sub false 22 1000000000000000000,.c1 24 55 23,.m 25 0,.s 26 (.sliceStr (.tmp 25) (some (.const (.int .i64 9))) none),.m 2
 24,.m 3 26,.t 4],.ret]) .skip],.q [.o [.m 27 0,.s 28 (.indexStr (.tmp 27) (.const (.int .i64 0))),.s 29 (.bin .neq false (.tmp 28) (.const (.int .u8 2)))],.k 29 (.q [.o [.s 2 (.mov (.const (.string ⟨#[]⟩))),.s 3
 (.mov (.const (.string ⟨#[]⟩))),.f 4],.ret]) .skip],.o [.s 30 (.buildSlice 5 1 (.int .u8 0) 0 []),.m 6 30],.q [.o [.ki 7 1],.block 0 (.loop (.q [.q [.o [.m 31 7,.bk 32 .add false 31 1,.m 33 0,.s 34 (.lenStr
 (.tmp 33)),.bb 35 .lss false 32 34],.k 35 .skip (.exit 0)],.block 1 (.q [.q [.o [.m 38 0,.m 39 7,.s 40 (.indexStr (.tmp 38) (.tmp 39)),.s 41 (.bin .neq false (.tmp 40) (.const (.int .u8 0)))],.k 41 (.q [.o [.m 42
 6,.m 43 0,.m 44 7,.s 45 (.indexStr (.tmp 43) (.tmp 44)),.s 46 (.buildSlice 5 1 (.int .u8 0) 1 [(0,.tmp 45)]),.ap 47 5 1 1 42 46,.m 6 47],.exit 1]) .skip],.q [.o [.m 48 0,.m 49 7,.bk 50 .add false 49 1,.s 51
 (.indexStr (.tmp 48) (.tmp 50)),.s 52 (.bin .eql false (.tmp 51) (.const (.int .u8 0)))],.k 52 (.q [.dops [.m 53 6,.s 54 (.toStr (.tmp 53)),.m 55 0,.m 56 7,.bk 57 .add false 56 2,.s 58 (.sliceStr (.tmp 55) (some
 (.tmp 57)) none),.m 2 54,.m 3 58,.t 4],.ret]) .skip],.q [.o [.m 59 0,.m 60 7,.bk 61 .add false 60 1,.s 62 (.indexStr (.tmp 59) (.tmp 61)),.s 63 (.bin .neq false (.tmp 62) (.const (.int .u8 255)))],.k 63 (.q [.o
 [.s 2 (.mov (.const (.string ⟨#[]⟩))),.s 3 (.mov (.const (.string ⟨#[]⟩))),.f 4],.ret]) .skip],.o [.m 64 6,.s 65 (.buildSlice 5 1 (.int .u8 0) 1 [(0,.const (.int .u8 0))]),.ap 66 5 1 1 64 65,.m 6 66],.o [.m 67
 7,.bk 68 .add false 67 1,.m 7 68]]),.o [.m 36 7,.bk 37 .add false 36 1,.m 7 37]]))],.o [.s 2 (.mov (.const (.string ⟨#[]⟩))),.s 3 (.mov (.const (.string ⟨#[]⟩))),.f 4],.ret]
def wp_:LF:=⟨1,69,Ah_,[.tmp 2,.tmp 3,.tmp 4]⟩
theorem yH_:aC_ Tryz.prog Tryz.f154 wp_:=az_
theorem l9_(l:List UInt8)(hp:0<l.length)(hl:l.length≤1048576)(h:List Row):PureCall Tryz.prog 154 [.val (.string (txt l))] h (kr_ (dh_ l)):=by
 refine av_ mixed Tryz.func154 yH_ rfl rfl ?_ h
 rw[t6_ l hp]
 simp(disch:=omega)only[wp_,Ah_,go_sem,seval]
 by_cases q1:l[0]=1
 ·have q1':((l[0].toNat:Int)=1)=True:=by simp[q1]
  have q12:((l[0].toNat:Int)=2)=False:=by simp[q1]
  have q2n:¬ l[0]=2:=by rw[q1];decide
  by_cases q9:9≤l.length
  ·have q9':(9:Int)≤l.length:=by omega
   have e9:List.drop 1 (List.take 9 l)=(l.drop 1).take 8:=by rw[drop_take]
   have e10:List.drop 9 l=(l.drop 1).drop 8:=by rw[drop_drop]
   have hN:=jJ_ (l.drop 1)
   rw[if_pos ⟨q1,q9⟩]
   simp(disch:=omega)only[q1',q9',e9,bj_,go_sem,seval]
   refine PureCall.call (no_ _ (by simp;omega) _) ?_
   simp(disch:=omega)only[go_sem,↓reduceIte]
   refine PureCall.call (cK_ _ _ _ _) ?_
   rw[qA_ _ hN]
   by_cases qr:1≤b8_ 0 ((l.drop 1).take 8)∧b8_ 0 ((l.drop 1).take 8)≤1999999999999999999
   ·rw[if_pos qr]
    have qr':decide (1≤b8_ 0 ((l.drop 1).take 8)∧b8_ 0 ((l.drop 1).take 8)≤1999999999999999999)=true:=by simpa using qr
    simp(disch:=omega)only[qr',aA_,take_length,e10,bj_,go_sem,seval]
    refine PureCall.q (f5_ _ (by omega) (by omega) _) ?_
    exact⟨2,rfl⟩
   ·rw[if_neg qr]
    have qr':decide (1≤b8_ 0 ((l.drop 1).take 8)∧b8_ 0 ((l.drop 1).take 8)≤1999999999999999999)=false:=by simpa using qr
    simp(disch:=omega)only[qr',bj_,go_sem,seval]
    exact⟨2,rfl⟩
  ·have q9':¬ (9:Int)≤l.length:=by omega
   rw[if_neg (fun z=>q9 z.2),if_neg q2n]
   simp(disch:=omega)only[q1',q9',q12,bj_,go_sem,seval]
   exact⟨2,rfl⟩
 ·have q1':((l[0].toNat:Int)=1)=False:=by rw[eq_iff_iff,iff_false];intro e;exact q1 (UInt8.toNat_inj.1 (by have h2:(1:UInt8).toNat=1:=rfl;omega))
  rw[if_neg (fun z=>q1 z.1)]
  by_cases q2:l[0]=2
  case neg =>
   have q2':((l[0].toNat:Int)=2)=False:=by rw[eq_iff_iff,iff_false];intro e;exact q2 (UInt8.toNat_inj.1 (by have h2:(2:UInt8).toNat=2:=rfl;omega))
   rw[if_neg q2]
   simp(disch:=omega)only[q1',q2',bj_,go_sem,seval]
   exact⟨2,rfl⟩
  have q2':((l[0].toNat:Int)=2)=True:=by simp[q2]
  rw[if_pos q2]
  simp(disch:=omega)only[q1',q2',bj_,go_sem,seval]
  refine a4_ (fun n t h=>∃(i:Nat) (acc:List UInt8) (rest:List Row),t 0=.val (.string (txt l))∧t 6=.own 0 acc.length∧t 7=.val (.int .i64 i)∧h=⟨5,1,aY_ acc⟩::rest∧n=l.length+1-i∧i≤l.length∧acc.length≤i∧cd_ (l.drop 1) []=cd_ (l.drop i) acc) l.length ?_ ?_
  ·exact⟨1,[],[],rfl,rfl,rfl,rfl,by omega,by omega,by simp,rfl⟩
  rintro J hJ n t h ⟨i,acc,rest,t0,t6,t7,rfl,rfl,hi,hac,hS⟩
  have fl:=fA_ acc
  by_cases hlt:i+1<l.length
  ·have hlt':(i:Int)+1<l.length:=by omega
   have hlt0:i<l.length:=by omega
   have ei:(i:Int)+1=((i+1:Nat):Int):=by omega
   have ei2:(i:Int)+2=((i+2:Nat):Int):=by omega
   rw[mX_ l acc i hlt]at hS
   by_cases r0:l[i]=0
   ·rw[if_pos r0]at hS
    have r0':((l[i].toNat:Int)=0)=True:=by simp[r0]
    by_cases r1:l[i+1]=0
    ·rw[if_pos r1]at hS
     have r1':((l[i+1].toNat:Int)=0)=True:=by simp[r1]
     simp(disch:=omega)only[t0,t6,t7,ei,ei2,hlt,r0',r1',aA_,fl,hf_,take_length,Option.map_some,go_sem,seval]
     rw[hS]
     exact⟨2,rfl⟩
    ·rw[if_neg r1]at hS
     have r1':((l[i+1].toNat:Int)=0)=False:=by rw[eq_iff_iff,iff_false];intro e;exact r1 (UInt8.toNat_inj.1 (by have h2:(0:UInt8).toNat=0:=rfl;omega))
     by_cases r2:l[i+1]=255
     ·rw[if_pos r2]at hS
      have r2':((l[i+1].toNat:Int)=255)=True:=by simp[r2]
      simp(disch:=omega)only[t0,t6,t7,ei,hlt,r0',r1',r2',aA_,fl,go_sem,seval]
      refine⟨by omega,by omega,?_⟩
      try simp(disch:=omega)only[t0,t6,t7,ei,ei2,hlt,hlt0,r0',r1',r2',aA_,fl,go_sem,seval]
      exact⟨l.length+1-(i+2),by omega,hJ _ _ _ ⟨i+2,acc++[0],rest++[⟨5,1,aY_ [0]⟩],by simp[upd,t0],by simp[upd],by simp[upd];try omega,by simp[aY_],rfl,by omega,by simp;omega,hS⟩⟩
     ·rw[if_neg r2]at hS
      have r2':((l[i+1].toNat:Int)=255)=False:=by rw[eq_iff_iff,iff_false];intro e;exact r2 (UInt8.toNat_inj.1 (by have h2:(255:UInt8).toNat=255:=rfl;omega))
      simp(disch:=omega)only[t0,t7,ei,hlt,r0',r1',r2',aA_,go_sem,seval]
      rw[hS]
      exact⟨2,rfl⟩
   ·rw[if_neg r0]at hS
    have r0':((l[i].toNat:Int)=0)=False:=by rw[eq_iff_iff,iff_false];intro e;exact r0 (UInt8.toNat_inj.1 (by have h2:(0:UInt8).toNat=0:=rfl;omega))
    simp(disch:=omega)only[t0,t6,t7,ei,hlt,r0',aA_,fl,go_sem,seval]
    refine⟨by omega,by omega,?_⟩
    try simp(disch:=omega)only[t0,t6,t7,ei,ei2,hlt,hlt0,r0',aA_,fl,go_sem,seval]
    exact⟨l.length+1-(i+1),by omega,hJ _ _ _ ⟨i+1,acc++[l[i]],rest++[⟨5,1,aY_ [l[i]]⟩],by simp[upd,t0],by simp[upd],by simp[upd];try omega,by simp[aY_],rfl,by omega,by simp;omega,hS⟩⟩
  ·have hlt':¬ (i:Int)+1<l.length:=by omega
   simp(disch:=omega)only[t0,t7,hlt',aA_,go_sem,seval]
   rw[hS,ol_ l acc i (by omega)]
   exact⟨2,rfl⟩
theorem yt_(l:List UInt8)(i:Nat)(h:i<l.length):esc (l.drop i)=if l[i]=0 then 0::255::esc (l.drop (i+1))else l[i]::esc (l.drop (i+1)):=by
 rw[drop_eq_getElem_cons h,esc]
theorem wq_(n k:Nat)(h:k<8):IntKind.u8.wrap ((n:Int).fdiv (2 ^ min (8 * (7-(k:Int))).toNat 64))=((dd_ n (7-k)).toNat:Int):=by
 have e:(8 * (7-(k:Int))).toNat=(8 * ((7-k:Nat):Int)).toNat:=by omega
 rw[e,pp_ _ _ (by omega),mv_]
theorem nw_(l:List UInt8)(b:UInt8):aY_ l++[[AV.val (.int .u8 b.toNat)]]=aY_ (l++[b]):=by simp[aY_]
def yD_:LC :=
 .q [.o [.s 2 (.mov (.const (.string ⟨#[]⟩)))],.o [.s 7 (.buildSlice 5 1 (.int .u8 0) 0 []),.m 3 7],.q [.o [.m 8 0,.c1 9 192 8],.k 9 (.q [.o [.m 10 0,.c1 11 193 10,.bk 12 .add false 11 1000000000000000000,.m 4
 12],.o [.m 13 3,.s 14 (.buildSlice 5 1 (.int .u8 0) 1 [(0,.const (.int .u8 1))]),.ap 15 5 1 1 13 14,.m 3 15],.q [.o [.ki 5 7],.block 0 (.loop (.q [.q [.o [.m 16 5,.bk 17 .geq false 16 0],.k 17 .skip (.exit 0)],
 .block 1 (.o [.m 20 3,.m 21 4,.m 22 5,.s 23 (.bin .mul false (.const (.int .i64 8)) (.tmp 22)),.bb 24 .shr false 21 23,.s 25 (.convInt .u8 (.tmp 24)),.s 26 (.buildSlice 5 1 (.int .u8 0) 1 [(0,.tmp 25)]),.ap 27 5
 1 1 20 26,.m 3 27]),.o [.m 18 5,.bk 19 .sub false 18 1,.m 5 19]]))],.o [.m 28 3,.s 29 (.toStr (.tmp 28)),.m 2 29],.ret]) .skip],.o [.m 30 3,.s 31 (.buildSlice 5 1 (.int .u8 0) 1 [(0,.const (.int .u8 2))]),.ap
 32 5 1 1 30 31,.m 3 32],.q [.o [.ki 6 0],.block 2 (.loop (.q [.q [.o [.m 33 6,.m 34 0,.s 35 (.lenStr (.tmp 34)),.bb 36 .lss false 33 35],.k 36 .skip (.exit 2)],.block 3 (.q [.o [.m 39 3,.m 40 0,.m 41 6,.s 42
 (.indexStr (.tmp 40) (.tmp 41)),.s 43 (.buildSlice 5 1 (.int .u8 0) 1 [(0,.tmp 42)]),.ap 44 5 1 1 39 43,.m 3 44],.o [.m 45 0,.m 46 6,.s 47 (.indexStr (.tmp 45) (.tmp 46)),.s 48 (.bin .eql false (.tmp 47) (.const
 (.int .u8 0)))],.k 48 (.o [.m 49 3,.s 50 (.buildSlice 5 1 (.int .u8 0) 1 [(0,.const (.int .u8 255))]),.ap 51 5 1 1 49 50,.m 3 51]) .skip]),.o [.m 37 6,.bk 38 .add false 37 1,.m 6 38]]))],.o [.m 52 3,.s 53
 (.buildSlice 5 1 (.int .u8 0) 2 [(0,.const (.int .u8 0)),(1,.const (.int .u8 0))]),.ap 54 5 1 1 52 53,.s 55 (.toStr (.tmp 54)),.m 2 55],.ret]
def vS_:LF:=⟨1,56,yD_,[.tmp 2]⟩
theorem yl_:aC_ Tryz.prog Tryz.f150 vS_:=az_
theorem nE_(l:List UInt8)(hl:l.length≤1048576)(h:List Row):PureCall Tryz.prog 150 [.val (.string (txt l))] h (.val (.string (txt (ch_ l)))):=by
 refine av_ mixed Tryz.func150 yl_ rfl rfl ?_ h
 simp(disch:=omega)only[vS_,yD_,go_sem,reduceCtorEq,↓reduceIte]
 refine PureCall.call (lC_ l (by omega) _) ?_
 by_cases q:dI_ l=true
 ·simp(disch:=omega)only[q,go_sem,reduceCtorEq,↓reduceIte]
  refine PureCall.call (jH_ l (by omega) _) ?_
  have hn:=er_ l
  have hq:=ih_ l
  have hq2:=id_ l
  have hkey:ch_ l=1::be8 (c1_ l):=by unfold ch_;rw[if_pos q]
  simp(disch:=omega)only[aA_,←hq,go_sem,reduceEqDiff,reduceLeDiff,↓reduceIte]
  refine⟨by omega,?_⟩
  try simp(disch:=omega)only[aA_,←hq,go_sem,reduceEqDiff,Nat.reduceAdd,reduceLeDiff,reduceCtorEq,Int.reduceLT,Int.reduceLE,Int.reduceNeg,Int.reduceSub,Int.reduceAdd,Int.reduceToNat,↓reduceIte]
  refine a4_ (fun n t h=>∃(k:Nat) (rest:List Row),t 3=.own 0 (1+k)∧t 4=.val (.int .i64 (c1_ l))∧t 5=.val (.int .i64 (7-k))∧h=⟨5,1,aY_ (1::(be8 (c1_ l)).take k)⟩::rest∧n=8-k∧k≤8) 8 ?_ ?_
  ·exact⟨0,_,rfl,rfl,rfl,rfl,rfl,by omega⟩
  rintro J hJ n t h ⟨k,rest,t3,t4,t5,rfl,rfl,hk⟩
  have fl:(aY_ (1::(be8 (c1_ l)).take k)).length=1+k:=by
   rw[fA_,lc_,length_take,dG_];omega
  by_cases hlt:k<8
  ·have hg:(0:Int)≤7-k:=by omega
   simp(disch:=omega)only[t3,t4,t5,hg,fl,ng_,kI_,aA_,wq_,go_sem,reduceEqDiff,reduceLeDiff,↓reduceIte]
   refine⟨by omega,by omega,?_⟩
   try simp(disch:=omega)only[t3,t4,t5,hg,fl,ng_,kI_,aA_,wq_,go_sem,reduceEqDiff,Nat.reduceAdd,reduceLeDiff,reduceCtorEq,Int.reduceLT,Int.reduceLE,Int.reduceNeg,Int.reduceSub,Int.reduceAdd,Int.reduceToNat,↓reduceIte]
   refine⟨8-(k+1),by omega,hJ _ _ _ ⟨k+1,rest++[⟨5,1,aY_ [dd_ (c1_ l) (7-k)]⟩],by simp[upd];try omega,by simp[upd,t4],by simp[upd];try omega,?_,rfl,by omega⟩⟩
   rw[nw_,cons_append,←pC_ _ _ hlt]
   rfl
  ·have hg:¬ (0:Int)≤7-k:=by omega
   simp(disch:=omega)only[t3,t5,hg,fl,hf_,Option.map_some,go_sem,reduceEqDiff,↓reduceIte]
   rw[rv_ _ _ (by omega),←hkey]
   exact⟨1,rfl⟩
 ·have q':dI_ l=false:=by simpa using q
  have hkey:ch_ l=2::(esc l++[0,0]):=by unfold ch_;rw[if_neg q]
  simp(disch:=omega)only[q',go_sem,reduceEqDiff,reduceLeDiff,↓reduceIte]
  refine⟨by omega,?_⟩
  try simp(disch:=omega)only[go_sem,reduceEqDiff,Nat.reduceAdd,reduceLeDiff,reduceCtorEq,Int.reduceLT,Int.reduceLE,Int.reduceNeg,Int.reduceSub,Int.reduceAdd,Int.reduceToNat,↓reduceIte]
  refine a4_ (fun n t h=>∃(i:Nat) (out:List UInt8) (rest:List Row),t 0=.val (.string (txt l))∧t 3=.own 0 out.length∧t 6=.val (.int .i64 i)∧h=⟨5,1,aY_ out⟩::rest∧n=l.length-i∧i≤l.length∧out.length≤1+2 * i∧2::esc l=out++esc (l.drop i)) l.length ?_ ?_
  ·exact⟨0,[2],_,rfl,rfl,rfl,rfl,rfl,by omega,by simp,rfl⟩
  rintro J hJ n t h ⟨i,out,rest,t0,t3,t6,rfl,rfl,hi,hol,hS⟩
  have fl:=fA_ out
  by_cases hlt:i<l.length
  ·have hltI:(i:Int)<l.length:=by omega
   rw[yt_ l i hlt]at hS
   by_cases r0:l[i]=0
   ·rw[if_pos r0]at hS
    have r0':((l[i].toNat:Int)=0)=True:=by simp[r0]
    simp(disch:=omega)only[t0,t3,t6,hltI,r0',fl,aA_,go_sem,reduceEqDiff,reduceLeDiff,reduceCtorEq,↓reduceIte]
    refine⟨by omega,by omega,?_⟩
    refine⟨by omega,by omega,?_⟩
    refine⟨l.length-(i+1),by omega,hJ _ _ _ ⟨i+1,out++[0,255],rest++[⟨5,1,aY_ [l[i]]⟩,⟨5,1,aY_ [255]⟩],by simp[upd,t0],by simp[upd],by simp[upd];try omega,by simp[aY_,r0],rfl,by omega,by simp;omega,by rw[hS];simp⟩⟩
   ·rw[if_neg r0]at hS
    have r0':((l[i].toNat:Int)=0)=False:=by rw[eq_iff_iff,iff_false];intro e;exact r0 (UInt8.toNat_inj.1 (by have h2:(0:UInt8).toNat=0:=rfl;omega))
    simp(disch:=omega)only[t0,t3,t6,hltI,r0',fl,aA_,go_sem,reduceEqDiff,reduceLeDiff,reduceCtorEq,↓reduceIte]
    refine⟨by omega,by omega,?_⟩
    try simp(disch:=omega)only[t0,t3,t6,hltI,hlt,r0',fl,aA_,go_sem,reduceEqDiff,Nat.reduceAdd,reduceLeDiff,reduceCtorEq,Int.reduceLT,Int.reduceLE,Int.reduceNeg,Int.reduceSub,Int.reduceAdd,Int.reduceToNat,↓reduceIte]
    exact⟨l.length-(i+1),by omega,hJ _ _ _ ⟨i+1,out++[l[i]],rest++[⟨5,1,aY_ [l[i]]⟩],by simp[upd,t0],by simp[upd],by simp[upd];try omega,by simp[aY_],rfl,by omega,by simp;omega,by rw[hS];simp⟩⟩
  ·have hltI:¬ (i:Int)<l.length:=by omega
   rw[drop_eq_nil_of_le (by omega),esc,append_nil]at hS
   simp(disch:=omega)only[t0,t3,t6,hltI,fl,go_sem,reduceEqDiff,Nat.reduceAdd,reduceLeDiff,reduceCtorEq,↓reduceIte]
   refine⟨by omega,by omega,?_⟩
   have e2:aY_ out++[[AV.val (.int .u8 0)],[AV.val (.int .u8 0)]]=aY_ (out++[0,0]):=by simp[aY_]
   simp(disch:=omega)only[e2,hf_,Option.map_some,go_sem]
   rw[hkey,←hS]
   exact⟨1,rfl⟩
def zf_:LC :=
 .q [.o [.s 2 (.mov (.const (.string ⟨#[]⟩)))],.o [.s 3 (.mov (.const (.string ⟨#[]⟩)))],.q [.o [.ki 4 0],.block 0 (.loop (.q [.q [.o [.m 5 4,.m 6 0,.ll 7 6,.bb 8 .lss false 5 7],.k 8 .skip (.exit 0)],.block 1 (.o
 [.m 11 3,.m 12 0,.m 13 4,.ia 14 1 12 13,.ln 15 14,.c1 16 150 15,.bb 17 .add false 11 16,.m 3 17]),.o [.m 9 4,.bk 10 .add false 9 1,.m 4 10]]))],.o [.m 18 3,.m 2 18],.ret]
def wy_:LF:=⟨1,19,zf_,[.tmp 2]⟩
theorem zI_:aC_ Tryz.prog Tryz.f100 wy_:=az_
theorem gr_(xs:List ByteArray)(hx:bM_ xs=true)(h:List Row):PureCall Tryz.prog 100 [.list 0 1 (xs.map ak_)] h (.val (.string (txt (bW_ (bss xs))))):=by
 refine av_ mixed Tryz.func100 zI_ rfl rfl ?_ h
 obtain⟨h4,hm⟩:=jy_ hx
 simp(disch:=omega)only[wy_,zf_,go_sem]
 refine a4_ (fun n t h=>∃k:Nat,t 0=.list 0 1 (xs.map ak_)∧t 3=.val (.string (txt (bW_ (bss (xs.take k)))))∧t 4=.val (.int .i64 k)∧h=[]∧n=xs.length-k∧k≤xs.length) xs.length ⟨0,rfl,rfl,rfl,rfl,rfl,Nat.zero_le _⟩ ?_
 rintro J hJ n t h ⟨k,t0,t3,t4,rfl,rfl,hk⟩
 by_cases hlt:k<xs.length
 ·have hltI:(k:Int)<xs.length:=by omega
  have hl1:=hQ_ (xs.take k) (fun x hx'=>(hm x (mem_of_mem_take hx')).2)
  have hl2:(xs.take k).length≤4:=by rw[length_take];omega
  have hl3:=gU_ (bs xs[k])
  have hl4:=hm _ (getElem_mem hlt)
  have hl5:(bs xs[k]).length=xs[k].size:=eN_ _
  have hc:=fun h=>nE_ (bs xs[k]) (by omega) h
  rw[fl_]at hc
  have hadd:(bW_ (bss (xs.take k))).length+(ch_ (bs xs[k])).length≤9223372036854775807:=by omega
  simp(disch:=omega)only[t0,t3,t4,hltI,go_sem,reduceEqDiff,reduceCtorEq,↓reduceIte]
  refine PureCall.call (hc _) ?_
  simp(disch:=omega)only[t4,lk_ _ _ _ hadd,aA_,go_sem,reduceEqDiff,↓reduceIte]
  refine⟨xs.length-(k+1),by omega,hJ _ _ _ ⟨k+1,by simp[upd,t0],?_,by simp[upd],rfl,rfl,by omega⟩⟩
  rw[take_succ_eq_append_getElem hlt,bss,bss,map_append,pF_]
  simp[upd,bW_]
 ·have hltI:¬ (k:Int)<xs.length:=by omega
  simp(disch:=omega)only[t0,t3,t4,hltI,go_sem,reduceEqDiff,reduceCtorEq,↓reduceIte]
  rw[take_of_length_le (by omega)]
  exact⟨1,rfl⟩
theorem s5_{s:ByteArray}(h:cz_ dh_ 5 (bs s) []=none):cf_ s=([],false):=by
 rw[cf_,j9_,ff_,h]
theorem nz_{s:ByteArray}{out:List (List UInt8)}{left:List UInt8}(h:cz_ dh_ 5 (bs s) []=some (out,left))(q:¬ (left=[]∧dJ_ out=true∧bW_ out=bs s)):cf_ s=([],false):=by
 rw[cf_,j9_,ff_,h];simp only;rw[if_neg q]
theorem vz_{s:ByteArray}{out:List (List UInt8)}(h:cz_ dh_ 5 (bs s) []=some (out,[]))(h2:dJ_ out=true)(h3:bW_ out=bs s):cf_ s=(out.map txt,true):=by
 rw[cf_,j9_];simp[ff_,h,h2,h3]
def xZ_:LC :=
 .q [.o [.nl 2,.f 3],.o [.s 9 (.buildSlice 9 1 (.string ⟨#[]⟩) 0 []),.m 4 9],.o [.m 10 0,.m 5 10],.block 0 (.loop (.q [.q [.o [.m 11 5,.s 12 (.bin .neq false (.tmp 11) (.const (.string ⟨#[]⟩))),.m 13 12,.gm 14 13
 true 4,.g 15 13 true (.lenSl (.tmp 14)),.g 16 13 true (.bin .leq false (.tmp 15) (.const (.int .i64 4))),.pf 17 13 16],.k 17 .skip (.exit 0)],.block 1 (.q [.o [.m 19 5,.c1 20 154 19,.m 18 20,.ex 21 18 0,.ex 22
 18 1,.ex 23 18 2,.m 6 21,.m 7 22,.m 8 23],.q [.o [.m 24 8,.nt 25 24],.k 25 (.q [.o [.s 26 (.buildSlice 9 1 (.string ⟨#[]⟩) 0 []),.m 2 26,.f 3],.ret]) .skip],.o [.m 27 4,.m 28 6,.s 29 (.buildSlice 9 1
 (.string ⟨#[]⟩) 1 [(0,.tmp 28)]),.ap 30 9 1 16 27 29,.m 4 30],.o [.m 31 7,.m 5 31]])])),.q [.o [.m 32 5,.s 33 (.bin .neq false (.tmp 32) (.const (.string ⟨#[]⟩))),.m 34 33,.gm 35 34 false 4,.gc 36 34 false 99
 35,.gu 37 34 false 36,.pt 38 34 37,.m 39 38,.gm 40 39 false 4,.gc 41 39 false 100 40,.gm 42 39 false 0,.g 43 39 false (.bin .neq false (.tmp 41) (.tmp 42)),.pt 44 39 43],.k 44 (.q [.o [.s 45 (.buildSlice 9 1
 (.string ⟨#[]⟩) 0 []),.m 2 45,.f 3],.ret]) .skip],.o [.m 46 4,.m 2 46,.t 3],.ret]
def wj_:LF:=⟨1,47,xZ_,[.tmp 2,.tmp 3]⟩
theorem z5_:aC_ Tryz.prog Tryz.f112 wj_:=az_
theorem ky_(s:ByteArray)(hs:s.size≤1048576):eV_ Tryz.prog 112 [.val (.string s)] (mC_ (cf_ s)) (fun a=>∃b q,a=.tup [b,.val (.bool q)]):=by
 refine p6_ mixed Tryz.func112 z5_ rfl (fun h0=>?_)
 have hbl:=eN_ s
 simp(disch:=omega)only[wj_,xZ_,go_sem,seval]
 refine a4_ (fun n t h=>∃(out:List (List UInt8)) (left:List UInt8) (rest:List Row),t 0=.val (.string s)∧t 4=.own h0.length out.length∧t 5=.val (.string (txt left))∧h=h0++⟨9,1,dV_ out⟩::rest∧n=5-out.length∧out.length≤5∧left.length≤s.size∧cz_ dh_ 5 (bs s) []=cz_ dh_ (5-out.length) left out) 5 ?_ ?_
 ·exact⟨[],bs s,[],rfl,rfl,by rw[fl_];rfl,rfl,rfl,by simp,Nat.le_of_eq (eN_ s),rfl⟩
 rintro J hJ n t h ⟨out,left,rest,t0,t4,t5,rfl,rfl,ho,hle,hS⟩
 have fl:(dV_ out).length=out.length:=by simp
 have hA:=o7_ h0 out rest
 by_cases q0:left=[]
 ·subst q0
  have hR:cz_ dh_ 5 (bs s) []=some (out,[]):=by
   rw[hS];cases 5-out.length with
   | zero=>rw[cz_]
   | succ f=>rw[cz_,if_pos rfl]
  have q0':(txt ([]:List UInt8)=txt [])=True:=by simp
  simp(disch:=omega)only[t4,t5,bj_,go_sem,seval]
  refine PureCall.call (AW.frozen (dM_ (out.map txt) (by simp;omega)) hA) ?_
  by_cases s1:dJ_ out=true
  case neg =>
   have s1':bM_ (out.map txt)=false:=by rw[dS_];simpa using s1
   simp(disch:=omega)only[t4,s1',bj_,go_sem,seval]
   rw[nz_ hR (fun q=>s1 q.2.1)]
   exact⟨_,rfl,cJ_ (e1_ (out:=[]) (E:=9) (by first|(rw[g9_];rfl)|(rw[g9_];simp)) (by omega)) (by omega) _,_,_,rfl⟩
  have s1':bM_ (out.map txt)=true:=by rw[dS_];exact s1
  simp(disch:=omega)only[t4,s1',go_sem,seval]
  refine PureCall.call (AW.frozen (gr_ (out.map txt) s1') hA) ?_
  rw[hB_]
  by_cases s2:bW_ out=bs s
  case neg =>
   have s2':(txt (bW_ out)=s)=False:=by rw[eq_iff_iff,iff_false];intro e;exact s2 (by rw[←e];exact(bg_ _).symm)
   simp(disch:=omega)only[t0,t4,s2',bj_,go_sem,seval]
   rw[nz_ hR (fun q=>s2 q.2.2)]
   exact⟨_,rfl,cJ_ (e1_ (out:=[]) (E:=9) (by first|(rw[g9_];rfl)|(rw[g9_];simp)) (by omega)) (by omega) _,_,_,rfl⟩
  have s2':(txt (bW_ out)=s)=True:=by rw[s2,fl_];simp
  simp(disch:=omega)only[t0,t4,s2',bj_,go_sem,seval]
  rw[vz_ hR s1 s2]
  have hz:=cJ_ (e1_ (base:=h0.length) (l:=h0.length) (E:=9) (out:=out.map txt) (H:=h0++⟨9,1,dV_ out⟩::rest) (by rw[iP_];rfl) (Nat.le_refl _)) (by omega) (.bool true)
  rw[List.length_map]at hz
  exact⟨_,rfl,hz,_,_,rfl⟩
 ·have hpos:0<left.length:=by cases left with
   | nil=>exact absurd rfl q0
   | cons b l=>simp
  have q0':(txt left=txt [])=False:=by rw[k9_];simp[q0]
  by_cases q4:out.length≤4
  ·have q4':(out.length:Int)≤4:=by omega
   have e5:5-out.length=(4-out.length)+1:=by omega
   rw[e5,nR_ dh_ (4-out.length) left out q0]at hS
   simp(disch:=omega)only[t4,t5,q0',q4',fl,bj_,go_sem,seval]
   have hc:=fun h=>l9_ left hpos (by omega) h
   cases hn:dh_ left with
   | none =>
    rw[hn,iu_]at hc
    rw[hn]at hS
    refine PureCall.call (hc _) ?_
    simp(disch:=omega)only[t4,fl,bj_,go_sem,seval]
    rw[s5_ (by rw[hS])]
    exact⟨_,rfl,cJ_ (e1_ (out:=[]) (E:=9) (by first|(rw[g9_];rfl)|(rw[g9_];simp)) (by omega)) (by omega) _,_,_,rfl⟩
   | some p =>
    obtain⟨x,r⟩:=p
    rw[hn,iz_]at hc
    have hlen:=tP_ left x r hn
    rw[hn]at hS
    refine PureCall.call (hc _) ?_
    simp(disch:=omega)only[t4,fl,bj_,go_sem,seval]
    refine⟨by omega,by omega,?_⟩
    try simp(disch:=omega)only[t0,t4,t5,q0',q4',fl,bj_,go_sem,seval]
    exact⟨5-(out.length+1),by omega,hJ _ _ _ ⟨out++[x],r,rest++[⟨9,1,[[.val (.string (txt x))]]⟩],by simp[upd,t0],by simp[upd],by simp[upd],by simp[ak_],by simp,by simp;omega,by omega,by simpa[Nat.sub_sub]using hS⟩⟩
  ·have q4':¬ (out.length:Int)≤4:=by omega
   have e0:5-out.length=0:=by omega
   have hR:cz_ dh_ 5 (bs s) []=some (out,left):=by rw[hS,e0,cz_]
   simp(disch:=omega)only[t4,t5,q0',q4',fl,bj_,go_sem,seval]
   rw[nz_ hR (fun q=>q0 q.1)]
   exact⟨_,rfl,cJ_ (e1_ (out:=[]) (E:=9) (by first|(rw[g9_];rfl)|(rw[g9_];simp)) (by omega)) (by omega) _,_,_,rfl⟩
theorem mF_(s:ByteArray)(hs:s.size≤1048576)(h:List Row):PureCall Tryz.prog 112 [.val (.string s)] h (mC_ (cf_ s)):=(ky_ s hs).pure rfl h
def kM_(n:ByteArray)(s:List ByteArray):Bool:=bF_ n&&bM_ s
def c52:LC :=
 .q [.o [.f 4],.o [.m 5 0,.c1 6 97 5,.m 7 6,.gm 8 7 true 1,.gc 9 7 true 98 8,.pf 10 7 9,.m 4 10],.ret]
def zo_:LF:=⟨2,11,c52,[.tmp 4]⟩
theorem A2_:aC_ prog Tryz.f52 zo_:=az_
theorem hS_(n:ByteArray)(s:List ByteArray)(hn:n.size≤1048576)(hs:s.length≤1048576)(h:List Row):PureCall prog 52 [.val (.string n),.list 0 1 (s.map ak_)] h (.val (.bool (kM_ n s))):=by
 refine av_ mixed Tryz.func52 A2_ rfl rfl ?_ h
 simp(disch:=omega)only[zo_,c52,go_sem,reduceCtorEq,↓reduceIte]
 repeat' (first
  | exact am_ _ _
  | (refine af_ ?_;first|rfl|(simp only[kM_, *,Bool.true_and,Bool.false_and];done)|(simp[kM_, *];done))
  | simp(disch:=omega)only[go_sem,reduceEqDiff,↓reduceIte]
  | (refine PureCall.call (iM_ _ hn _) ?_)
  | (refine PureCall.q (iM_ _ hn _) ?_)
  | (refine PureCall.call (fd_ _ hs _) ?_)
  | (refine PureCall.q (fd_ _ hs _) ?_)
  | ((first|(apply bz_;assumption)|(apply by_;assumption)|(apply bS_;assumption)|(apply bT_;assumption));intro hb;try simp only[hb])
  | ((first|(apply aT_;assumption)|(apply aR_;assumption)|(apply a6_;assumption)|(apply a7_;assumption));intro hb;try simp only[hb])
  | ((first|apply aQ_|apply aZ_|apply at_|apply as_)<;>intro hb<;>(try simp only[hb])<;>(first|have hp:=br_ hb|have hp:=bn_ hb|have hp:=bq_ hb|have hp:=bp_ hb|skip)))
theorem hd_(xs:List ByteArray):∀e∈xs.map ak_,e.all AV.cell=true:=by
 intro e he
 obtain⟨x,_,q⟩:=mem_map.1 he;subst q;rfl
theorem g6_(xs:List ByteArray):∀e∈xs.map ak_,e.all AV.flat=true:=by
 intro e he
 obtain⟨x,_,q⟩:=mem_map.1 he;subst q;rfl
theorem iV_(xs:List Int):∀e∈xs.map aK_,e.all AV.cell=true:=by
 intro e he
 obtain⟨x,_,q⟩:=mem_map.1 he;subst q;rfl
theorem l8_(xs:List Int):∀e∈xs.map aK_,e.all AV.flat=true:=by
 intro e he
 obtain⟨x,_,q⟩:=mem_map.1 he;subst q;rfl
def yX_:LC :=
 .q [.o [.nl 2],.o [.s 3 (.buildSlice 9 1 (.string ⟨#[]⟩) 0 []),.m 4 0,.ap 5 9 1 16 3 4,.m 2 5],.ret]
def ww_:LF:=⟨1,6,yX_,[.tmp 2]⟩
theorem ya_:aC_ prog Tryz.f113 ww_:=az_
theorem lQ_(xs:List ByteArray)(hx:xs.length≤1048576)(h:List Row):PureCall prog 113 [.list 0 1 (xs.map ak_)] h (.list 0 1 (xs.map ak_)):=by
 refine av_ mixed Tryz.func113 ya_ rfl rfl ?_ h
 simp(disch:=omega)only[ww_,yX_,go_sem,reduceEqDiff,reduceCtorEq,↓reduceIte]
 refine⟨by omega,by omega,hd_ xs,?_⟩
 exact qZ_ (r:=⟨9,1,xs.map ak_⟩) rfl (by simp) (g6_ xs)
def d1_:List UInt8→Option (List UInt8×List UInt8)
 | []=>none
 | b::l=>if b=1 then some ([],l)else(d1_ l).map fun p=>(b::p.1,p.2)
theorem e4_:∀(l:List UInt8),(d1_ l=none∧(∀x∈l,x≠1)∧Lib.indexByte l 1 = -1)∨(∃a b,d1_ l=some (a,b)∧l=a++1::b∧(∀x∈a,x≠1)∧Lib.indexByte l 1=a.length)
 | []=>.inl ⟨rfl,by simp,rfl⟩
 | b::l=>by
  by_cases hb:b=1
  ·subst hb
   exact .inr ⟨[],l,by simp[d1_],rfl,by simp,by simp[Lib.indexByte]⟩
  ·have hb':(b==1)=false:=by simpa using hb
   rcases e4_ l with ⟨h1,h2,h3⟩|⟨a,c,h1,h2,h3,h4⟩
   ·left
    refine⟨by simp[d1_,hb,h1],fun x hx=>?_,by rw[Lib.indexByte,hb',h3];rfl⟩
    rcases mem_cons.1 hx with q|q
    ·rw[q];exact hb
    ·exact h2 x q
   ·right
    refine⟨b::a,c,by simp[d1_,hb,h1],by rw[h2];rfl,fun x hx=>?_,?_⟩
    ·rcases mem_cons.1 hx with q|q
     ·rw[q];exact hb
     ·exact h3 x q
    ·rw[Lib.indexByte,hb',h4]
     have:((a.length:Int) == -1)=false:=by rw[beq_eq_false_iff_ne];omega
     rw[this];simp
theorem u6_{l:List UInt8}{i:Nat}(h:i<l.length)(h1:∀(j:Nat) (hj:j<i),l[j]'(by omega)≠1)(h2:l[i]=1):d1_ l=some (l.take i,l.drop (i+1)):=by
 rcases e4_ l with ⟨_,q,_⟩|⟨a,b,e1,e2,e3,_⟩
 ·exact absurd h2 (q _ (getElem_mem h))
 ·have hal:a.length=i:=by
   rcases Nat.lt_trichotomy a.length i with q|q|q
   ·exact absurd (by subst e2;simp) (h1 a.length q)
   ·exact q
   ·exfalso
    refine e3 (a[i]) (getElem_mem q) ?_
    rw[←h2];subst e2
    rw[getElem_append_left q]
  rw[e1];subst e2 hal;simp
theorem kw_{l a b:List UInt8}{i:Nat}(e:d1_ l=some (a,b))(hi:i≤l.length)(h1:∀(j:Nat) (hj:j<i),l[j]'(by omega)≠1):i≤a.length∧a.length<l.length:=by
 rcases e4_ l with ⟨q,_,_⟩|⟨a',b',e1,e2,e3,_⟩
 ·rw[e]at q;cases q
 ·rw[e]at e1;cases e1
  subst e2
  refine⟨?_,by simp⟩
  rcases Nat.lt_or_ge a.length i with q|q
  ·exact absurd (by simp) (h1 a.length q)
  ·exact q
def b7_(key:ByteArray):Option (ByteArray×List ByteArray) :=
 match d1_ (bs key)with
 | none=>none
 | some (a,b)=>if((cf_ (txt b)).2&&bF_ (txt a))=true then some (txt a,(cf_ (txt b)).1)else none
def bC_(key:ByteArray):Bool:=(b7_ key).isSome
def mJ_:Option (ByteArray×List ByteArray)→AV
 | some (n,s)=>.tup [.val (.string n),.list 0 1 (s.map ak_),.val (.bool true)]
 | none=>.tup [.val (.string ⟨#[]⟩),.val (.slice none 0 0),.val (.bool false)]
theorem jO_(l:List UInt8)(c:UInt8)(h:List Row):PureCall prog 203 [.val (.string (txt l)),.val (.string (txt [c]))] h (.val (.int .i64 (Lib.indexByte l c))):=by
 refine f4_ (vals:=[.string (txt l),.string (txt [c])]) (fun w _=>?_) h
 have:=Any.stringslite_Index_one Tryz.lays219 (txt l) c w
 rw[bg_]at this
 refine this.mono ?_
 rintro e w' ⟨rfl,rfl⟩
 exact⟨rfl,Go.RowKit.Below.refl _ _⟩
def li_(l:List UInt8):AV:=match d1_ l with
 | some (a,b)=>.tup [.val (.string (txt a)),.val (.string (txt b)),.val (.bool true)]
 | none=>.tup [.val (.string (txt l)),.val (.string (txt [])),.val (.bool false)]
def yi_:LC :=
 .q [.o [.s 4 (.mov (.const (.string ⟨#[]⟩))),.s 5 (.mov (.const (.string ⟨#[]⟩))),.f 6],.q [.o [.m 8 0,.m 9 1,.c2 10 203 8 9,.m 7 10],.o [.m 11 7,.bk 12 .geq false 11 0],.k 12 (.q [.dops [.m 13 0,.m 14 7,.s 15
 (.sliceStr (.tmp 13) none (some (.tmp 14))),.m 16 0,.m 17 7,.m 18 1,.s 19 (.lenStr (.tmp 18)),.bb 20 .add false 17 19,.s 21 (.sliceStr (.tmp 16) (some (.tmp 20)) none),.m 4 15,.m 5 21,.t 6],.ret]) .skip],.o
 [.m 22 0,.m 4 22,.s 5 (.mov (.const (.string ⟨#[]⟩))),.f 6],.ret]
def vP_:LF:=⟨2,23,yi_,[.tmp 4,.tmp 5,.tmp 6]⟩
theorem z2_:aC_ prog Tryz.f157 vP_:=az_
def yf_:LC :=
 .q [.o [.s 4 (.mov (.const (.string ⟨#[]⟩))),.s 5 (.mov (.const (.string ⟨#[]⟩))),.f 6],.o [.m 7 0,.m 8 1,.c2 9 157 7 8,.ex 10 9 0,.ex 11 9 1,.ex 12 9 2,.m 4 10,.m 5 11,.m 6 12],.ret]
def v7_:LF:=⟨2,13,yf_,[.tmp 4,.tmp 5,.tmp 6]⟩
theorem zy_:aC_ prog Tryz.f126 v7_:=az_
theorem kU_(l:List UInt8)(hl:l.length≤1048576)(h:List Row):PureCall prog 157 [.val (.string (txt l)),.val (.string (txt [1]))] h (li_ l):=by
 refine av_ mixed Tryz.func157 z2_ rfl rfl ?_ h
 simp(disch:=omega)only[vP_,yi_,go_sem,reduceEqDiff,reduceCtorEq,↓reduceIte]
 refine PureCall.call (jO_ l 1 _) ?_
 rcases e4_ l with ⟨h1,h2,h3⟩|⟨a,b,h1,h2,h3,h4⟩
 ·simp(disch:=omega)only[h3,go_sem,reduceEqDiff,reduceCtorEq,Int.reduceLE,Int.reduceNeg,↓reduceIte]
  rw[li_,h1]
  exact bx_ _ _ rfl
 ·have hal:a.length<l.length:=by rw[h2,la_,lc_];omega
  have e1:l.take a.length=a:=by rw[h2];simp
  have e2:(l.take l.length).drop (a.length+1)=b:=by
   rw[take_length,h2,drop_append,drop_eq_nil_of_le (by omega)]
   have:a.length+1-a.length=1:=by omega
   rw[this];rfl
  have n1:((a.length:Int)+((1:Nat):Int)).toNat=a.length+1:=by omega
  have n2:((a.length:Int)+1).toNat=a.length+1:=by omega
  have c1:((0:Int)≤(a.length:Int)+1)=True:=eq_true (by omega)
  simp(disch:=omega)only[h4,bb_,n1,e1,e2,aA_,go_sem,reduceEqDiff,reduceCtorEq,↓reduceIte]
  rw[li_,h1]
  exact bx_ _ _ rfl
theorem oJ_(l:List UInt8)(hl:l.length≤1048576)(h:List Row):PureCall prog 126 [.val (.string (txt l)),.val (.string (txt [1]))] h (li_ l):=by
 refine av_ mixed Tryz.func126 zy_ rfl rfl ?_ h
 simp(disch:=omega)only[v7_,yf_,go_sem,reduceEqDiff,reduceCtorEq,↓reduceIte]
 refine PureCall.call (kU_ l hl _) ?_
 unfold li_
 split
 ·simp(disch:=omega)only[go_sem,reduceEqDiff,↓reduceIte];exact bx_ _ _ rfl
 ·simp(disch:=omega)only[go_sem,reduceEqDiff,↓reduceIte];exact bx_ _ _ rfl
theorem nN_{s:ByteArray}(h:(cf_ s).2=true):bM_ (cf_ s).1=true:=by
 unfold cf_ at h⊢
 split at h
 ·rename_i xs e
  show bM_ (xs.map txt)=true
  unfold ff_ at e
  split at e
  ·cases e
  ·split at e
   ·rename_i q;cases e;rw[dS_];exact q.2.1
   ·cases e
 ·cases h
theorem vK_(s:ByteArray):(cf_ s).1.length≤4:=by
 by_cases q:(cf_ s).2=true
 ·exact(jy_ (nN_ q)).1
 ·unfold cf_ at q⊢
  split
  ·rename_i e;rw[e]at q;exact absurd rfl q
  ·simp
theorem h7_(p:List ByteArray×Bool):mC_ p=.tup [.list 0 1 (p.1.map ak_),.val (.bool p.2)]:=rfl
def c76:LC :=
 .q [.o [.s 2 (.mov (.const (.string ⟨#[]⟩))),.nl 3,.f 4],.o [.m 11 0,.s 12 (.call 126 [.tmp 11,.const (.string ⟨#[1]⟩)]),.m 10 12,.ex 13 10 0,.ex 14 10 1,.ex 15 10 2,.m 5 13,.m 6 14,.m 7 15],.o [.m 17 6,.c1
 18 127 17,.m 16 18,.ex 19 16 0,.ex 20 16 1,.m 8 19,.m 9 20],.q [.o [.m 21 7,.nt 22 21,.m 23 22,.gm 24 23 false 9,.gu 25 23 false 24,.pt 26 23 25,.m 27 26,.gm 28 27 false 5,.gc 29 27 false 128 28,.gu 30 27
 false 29,.pt 31 27 30],.k 31 (.q [.o [.s 2 (.mov (.const (.string ⟨#[]⟩))),.nl 3,.f 4],.ret]) .skip],.o [.m 32 5,.m 33 8,.m 2 32,.m 3 33,.t 4],.ret]
def yI_:LF:=⟨1,34,c76,[.tmp 2,.tmp 3,.tmp 4]⟩
theorem AH_:aC_ prog Tryz.f76 yI_:=az_
def c64:LC :=
 .q [.o [.s 2 (.mov (.const (.string ⟨#[]⟩))),.nl 3,.f 4],.q [.o [.ki 5 1],.block 0 (.loop (.q [.q [.o [.m 8 5,.m 9 0,.s 10 (.lenStr (.tmp 9)),.bb 11 .lss false 8 10,.m 12 11,.gm 13 12 true 5,.g 14 12 true (.bin
 .leq false (.tmp 13) (.const (.int .i64 8))),.pf 15 12 14],.k 15 .skip (.exit 0)],.block 1 (.q [.q [.dops [.m 18 0,.m 19 5,.s 20 (.indexStr (.tmp 18) (.tmp 19)),.s 21 (.indexStr (.const (.string ⟨#[1]⟩)) (.const
 (.int .i64 0))),.bb 22 .neq false 20 21],.k 22 (.exit 1) .skip],.o [.m 24 0,.m 25 5,.bk 26 .add false 25 1,.s 27 (.sliceStr (.tmp 24) (some (.tmp 26)) none),.c1 28 112 27,.m 23 28,.ex 29 23 0,.ex 30 23 1,.m 6
 29,.m 7 30],.q [.o [.m 31 7,.nt 32 31,.m 33 32,.gm 34 33 false 0,.gm 35 33 false 5,.g 36 33 false (.sliceStr (.tmp 34) none (some (.tmp 35))),.gm 37 33 false 6,.g 38 33 false (.call 52 [.tmp 36,.tmp 37]),.gu
 39 33 false 38,.pt 40 33 39],.k 40 (.q [.o [.s 2 (.mov (.const (.string ⟨#[]⟩))),.nl 3,.f 4],.ret]) .skip],.dops [.m 41 0,.m 42 5,.s 43 (.sliceStr (.tmp 41) none (some (.tmp 42))),.m 44 6,.c1 45 113 44,.m 2
 43,.m 3 45,.t 4],.ret]),.o [.m 16 5,.bk 17 .add false 16 1,.m 5 17]]))],.o [.s 2 (.mov (.const (.string ⟨#[]⟩))),.nl 3,.f 4],.ret]
def yM_:LF:=⟨1,46,c64,[.tmp 2,.tmp 3,.tmp 4]⟩
theorem AT_:aC_ prog Tryz.f64 yM_:=az_
theorem lD_(key:ByteArray)(hk:key.size≤1048576)(h:List Row):PureCall prog 76 [.val (.string key)] h (mJ_ (b7_ key)):=by
 refine av_ mixed Tryz.func76 AH_ rfl rfl ?_ h
 obtain⟨l,rfl⟩:∃l,key=txt l:=⟨_,kk_ key⟩
 rw[bb_]at hk
 have hc:(⟨#[1]⟩:ByteArray)=txt [1]:=rfl
 simp(disch:=omega)only[yI_,c76,hc,go_sem,reduceCtorEq,↓reduceIte]
 refine PureCall.call (oJ_ l hk _) ?_
 have hkp:b7_ (txt l)=match d1_ l with
  | none=>none
  | some (a,b)=>if((cf_ (txt b)).2&&bF_ (txt a))=true then some (txt a,(cf_ (txt b)).1)else none:=by
  unfold b7_;rw[show bs (txt l)=l from bg_ l]
 rcases e4_ l with ⟨h1,h2,h3⟩|⟨a,b,h1,h2,h3,h4⟩
 ·rw[hkp,li_,h1]
  simp(disch:=omega)only[go_sem,reduceEqDiff,↓reduceIte]
  refine PureCall.call (ii_ _ (by rw[bb_];simp) _) ?_
  simp(disch:=omega)only[h7_,go_sem,reduceEqDiff,↓reduceIte]
  exact bx_ _ _ rfl
 ·have hal:a.length<l.length:=by rw[h2,la_,lc_];omega
  have hbl:b.length<l.length:=by rw[h2,la_,lc_];omega
  rw[hkp,li_,h1]
  simp(disch:=omega)only[go_sem,reduceEqDiff,↓reduceIte]
  refine PureCall.call (ii_ _ (by rw[bb_];omega) _) ?_
  cases hg:(cf_ (txt b)).2<;>simp(disch:=omega)only[h7_,hg,Bool.false_and,Bool.true_and,go_sem,reduceEqDiff,↓reduceIte]
  ·exact bx_ _ _ rfl
  refine PureCall.call (nr_ _ (by rw[bb_];omega) _) ?_
  cases hn:bF_ (txt a)<;>simp(disch:=omega)only[go_sem,reduceEqDiff,↓reduceIte]
  ·exact bx_ _ _ rfl
  ·exact bx_ _ _ rfl
theorem rG_:bF_ (txt [])=false:=by
 unfold bF_;rw[bb_];rfl
theorem rS_(l:List UInt8):bF_ (txt (1::l))=false:=by
 unfold bF_ dC_
 rw[bg_]
 have:c9_ (List.map (fun b:UInt8=>(b.toNat:Int)) (1::l)) 0=false:=by
  rw[map_cons]
  show(_&&_)=false
  rw[Bool.and_eq_false_iff];left;decide
 rw[this,Bool.and_false]
theorem lu_(key:ByteArray)(hk:key.size≤1048576)(h:List Row):PureCall prog 64 [.val (.string key)] h (mJ_ (b7_ key)):=by
 refine av_ mixed Tryz.func64 AT_ rfl rfl ?_ h
 obtain⟨l,rfl⟩:∃l,key=txt l:=⟨_,kk_ key⟩
 rw[bb_]at hk
 have hkp:b7_ (txt l)=match d1_ l with
  | none=>none
  | some (a,b)=>if((cf_ (txt b)).2&&bF_ (txt a))=true then some (txt a,(cf_ (txt b)).1)else none:=by
  unfold b7_;rw[show bs (txt l)=l from bg_ l]
 simp(disch:=omega)only[yM_,c64,go_sem]
 refine a4_ (fun n t h=>∃i:Nat,t 0=.val (.string (txt l))∧t 5=.val (.int .i64 i)∧n=10-i∧1≤i∧i≤9∧∀j:Nat,1≤j→j<i→l[j]?≠some 1) 9 ⟨1,rfl,rfl,rfl,Nat.le_refl _,by omega,fun j a b=>by omega⟩ ?_
 rintro J hJ n t h ⟨i,t0,t5,rfl,hi1,hi9,hno⟩
 have hno':∀(q:l[0]?≠some 1) (j:Nat) (hj:j<i) (hl:j<l.length),l[j]≠1:=by
  intro q j hj hl e
  rcases Nat.eq_zero_or_pos j with z|z
  ·subst z;exact q (by rw[getElem?_eq_getElem hl,e])
  ·exact hno j z hj (by rw[getElem?_eq_getElem hl,e])
 have hfst:l[0]?=some 1→b7_ (txt l)=none:=by
  intro q
  cases l with
  | nil=>cases q
  | cons c l' =>
   simp only[getElem?_cons_zero,Option.some.injEq]at q
   subst q
   rw[hkp]
   have:d1_ (1::l')=some ([],l'):=by simp[d1_]
   rw[this]
   simp only[rG_,Bool.and_false,Bool.false_eq_true,if_false]
 have hend:(l.length≤i∨i=9)→b7_ (txt l)=none:=by
  intro hc
  by_cases q:l[0]?=some 1
  ·exact hfst q
  rw[hkp]
  cases e:d1_ l with
  | none=>rfl
  | some p =>
   obtain⟨a,b⟩:=p
   rcases hc with hc|hc
   ·obtain⟨h1,h2⟩:=kw_ (i:=l.length) e (Nat.le_refl _) fun j hj=>hno' q j (by omega) hj
    omega
   ·by_cases hc2:l.length≤i
    ·obtain⟨h1,h2⟩:=kw_ (i:=l.length) e (Nat.le_refl _) fun j hj=>hno' q j (by omega) hj
     omega
    obtain⟨h1,h2⟩:=kw_ (i:=i) e (by omega) fun j hj=>hno' q j hj (by omega)
    have:bF_ (txt a)=false:=by
     unfold bF_
     have:decide (((txt a).size:Int)≤8)=false:=by rw[decide_eq_false_iff_not,bb_];omega
     rw[this,Bool.and_false,Bool.false_and]
    simp only[this,Bool.and_false,Bool.false_eq_true,if_false]
 by_cases hlt:i<l.length
 ·have clt:((i:Int)<l.length)=True:=eq_true (by omega)
  by_cases h8:i≤8
  ·have c8:((i:Int)≤8)=True:=eq_true (by omega)
   by_cases hb:l[i]=1
   ·have hb':((l[i].toNat:Int)=(1:UInt8).toNat)=True:=eq_true (by rw[hb])
    have e1:((i:Int)+1).toNat=i+1:=by omega
    have e2:(l.take l.length).drop (i+1)=l.drop (i+1):=by rw[take_length]
    have c1:((0:Int)≤(i:Int)+1)=True:=eq_true (by omega)
    simp(disch:=omega)only[t0,t5,clt,c8,hb',e1,e2,c1,aA_,go_sem,reduceEqDiff,reduceCtorEq,Int.reduceLE,↓reduceIte]
    have hkey:b7_ (txt l)=if((cf_ (txt (l.drop (i+1)))).2&&bF_ (txt (l.take i)))=true then some (txt (l.take i),(cf_ (txt (l.drop (i+1)))).1)else none:=by
     by_cases q:l[0]?=some 1
     ·rw[hfst q]
      have:bF_ (txt (l.take i))=false:=by
       cases l with
       | nil=>cases q
       | cons c l' =>
        simp only[getElem?_cons_zero,Option.some.injEq]at q
        subst q
        obtain⟨k,rfl⟩:=Nat.exists_eq_succ_of_ne_zero (show i≠0 by omega)
        exact rS_ _
      rw[this,Bool.and_false,if_neg (by simp)]
     ·rw[hkp,u6_ hlt (fun j hj=>hno' q j hj (by omega)) hb]
    refine PureCall.call (mF_ _ (by rw[bb_,length_drop];omega) _) ?_
    cases hg:(cf_ (txt (l.drop (i+1)))).2
    ·simp(disch:=omega)only[h7_,hg,go_sem,reduceEqDiff,↓reduceIte]
     rw[hkey,hg,Bool.false_and,if_neg (by simp)]
     exact bx_ _ _ rfl
    ·have hsub:=nN_ hg
     have hln:=vK_ (txt (l.drop (i+1)))
     rw[hg,Bool.true_and]at hkey
     simp(disch:=omega)only[h7_,hg,t0,t5,go_sem,reduceEqDiff,reduceCtorEq,↓reduceIte]
     refine PureCall.call (hS_ _ _ (by rw[bb_,length_take];omega) (by omega) _) ?_
     rw[kM_,hsub,Bool.and_true]
     cases hn:bF_ (txt (l.take i))
     ·simp(disch:=omega)only[go_sem,reduceEqDiff,↓reduceIte]
      rw[hkey,hn,if_neg (by simp)]
      exact bx_ _ _ rfl
     ·simp(disch:=omega)only[t0,t5,go_sem,reduceEqDiff,reduceCtorEq,↓reduceIte]
      refine PureCall.q (lQ_ _ (by omega) _) ?_
      rw[hkey,hn,if_pos rfl]
      exact bx_ _ _ rfl
   ·have hb':((l[i].toNat:Int)=(1:UInt8).toNat)=False:=eq_false (by intro e;exact hb (UInt8.toNat_inj.1 (by omega)))
    simp(disch:=omega)only[t0,t5,clt,c8,hb',aA_,go_sem,reduceEqDiff,reduceCtorEq,Int.reduceLE,↓reduceIte]
    refine⟨10-(i+1),by omega,hJ _ _ _ ⟨i+1,by simp[upd,t0],by simp[upd],rfl,by omega,by omega,fun j hj1 hj2 e=>?_⟩⟩
    rcases Nat.lt_or_ge j i with q|q
    ·exact hno j hj1 q e
    ·have:j=i:=by omega
     subst this
     rw[getElem?_eq_getElem hlt]at e
     exact hb (Option.some.inj e)
  ·have c8:((i:Int)≤8)=False:=eq_false (by omega)
   rw[hend (.inr (by omega))]
   simp(disch:=omega)only[t0,t5,clt,c8,go_sem,reduceEqDiff,reduceCtorEq,↓reduceIte]
   exact bx_ _ _ rfl
 ·have clt:((i:Int)<l.length)=False:=eq_false (by omega)
  rw[hend (.inl (by omega))]
  simp(disch:=omega)only[t0,t5,clt,go_sem,reduceEqDiff,reduceCtorEq,↓reduceIte]
  exact bx_ _ _ rfl
theorem tn_(o:Option (ByteArray×List ByteArray)):∃a b,mJ_ o=.tup [a,b,.val (.bool o.isSome)]:=by
 cases o with
 | none=>exact⟨_,_,rfl⟩
 | some p=>obtain⟨n,s⟩:=p;exact⟨_,_,rfl⟩
def c36:LC :=
 .q [.o [.f 2],.o [.m 7 0,.c1 8 76 7,.m 6 8,.ex 9 6 0,.ex 10 6 1,.ex 11 6 2,.m 3 9,.m 4 10,.m 5 11],.o [.m 12 5,.m 2 12],.ret]
def xU_:LF:=⟨1,13,c36,[.tmp 2]⟩
theorem Ar_:aC_ prog Tryz.f36 xU_:=az_
theorem dD_(key:ByteArray)(hk:key.size≤1048576)(h:List Row):PureCall prog 36 [.val (.string key)] h (.val (.bool (bC_ key))):=by
 refine av_ mixed Tryz.func36 Ar_ rfl rfl ?_ h
 simp(disch:=omega)only[xU_,c36,go_sem,reduceCtorEq,↓reduceIte]
 refine PureCall.call (lD_ key hk _) ?_
 obtain⟨a,b,e⟩:=tn_ (b7_ key)
 rw[e]
 simp(disch:=omega)only[go_sem,reduceEqDiff,↓reduceIte]
 exact am_ _ _
abbrev aB_(a b:ByteArray):Bool:=Op.bytesLess a.toList b.toList
theorem ki_(q:Bool)(a b:ByteArray):bd_ .geq q (.val (.string a)) (.val (.string b))=some (.val (.bool (!aB_ a b))):=rfl
def kp(xs:List ByteArray)(k:Nat):Bool:=bC_ (xs.getD k ⟨#[]⟩)&&(decide (k=0)||aB_ (xs.getD (k-1) ⟨#[]⟩) (xs.getD k ⟨#[]⟩))
def cF_(xs:List ByteArray):Bool:=(List.range xs.length).all (kp xs)
theorem hX_{xs:List ByteArray}{k:Nat}(h:k<xs.length)(hb:kp xs k=false):cF_ xs=false:=by
 rw[cF_,all_eq_false]
 exact⟨k,by simpa using h,by simp[hb]⟩
theorem fQ_{xs:List ByteArray}(h:∀k,k<xs.length→kp xs k=true):cF_ xs=true:=by
 rw[cF_,all_eq_true]
 intro k hk;exact h k (by simpa using hk)
theorem xm_{xs:List ByteArray}(h:0<xs.length):kp xs 0=bC_ xs[0]:=by
 rw[kp,getD_eq_getElem?_getD,getElem?_eq_getElem h];simp
theorem rc_{xs:List ByteArray}{k:Nat}(h:k<xs.length)(h0:k≠0):kp xs k=(bC_ xs[k]&&aB_ xs[k-1] xs[k]):=by
 rw[kp,getD_eq_getElem?_getD,getElem?_eq_getElem h,getD_eq_getElem?_getD,getElem?_eq_getElem (by omega)]
 simp[h0]
def d5_(xs:List ByteArray):Prop:=∀x∈xs,x.size≤1048576
theorem rp_{xs:List ByteArray}{k:Nat}(hS:∀j,j<k→kp xs j=true)(q:kp xs k=true):∀j,j<k+1→kp xs j=true:=by
 intro j hj
 rcases Nat.lt_or_ge j k with q2|q2
 ·exact hS j q2
 ·have:j=k:=by omega
  subst this;exact q
theorem mP_{xs:List ByteArray}{k:Nat}(h:k<xs.length):kp xs k=(bC_ xs[k]&&(!decide (0<k)||aB_ xs[k-1] xs[k])):=by
 by_cases h0:k=0
 ·subst h0;rw[xm_ h];simp
 ·rw[rc_ h h0]
  have:decide (0<k)=true:=by rw[decide_eq_true_eq];omega
  rw[this];rfl
def zb_:LC :=
 .q [.o [.f 2],.q [.o [.m 5 0,.ll 6 5,.ki 7 0],.block 0 (.loop (.q [.o [.bb 8 .lss false 7 6],.k 8 .skip (.exit 0),.block 1 (.q [.o [.m 9 7,.ia 10 1 5 7,.ln 11 10,.m 3 9,.m 4 11],.o [.m 12 4,.c1 13 36 12,.nt
 14 13,.m 15 14,.gm 16 15 false 3,.g 17 15 false (.bin .gtr false (.tmp 16) (.const (.int .i64 0))),.gm 18 15 false 17,.gm 19 18 true 0,.gm 20 18 true 3,.g 21 18 true (.bin .sub false (.tmp 20) (.const (.int .i64
 1))),.g 22 18 true (.indexAddr 1 (.tmp 19) (.tmp 21)),.gn 23 18 true 22,.gm 24 18 true 4,.g 25 18 true (.bin .geq false (.tmp 23) (.tmp 24)),.g 26 15 false (.pick (.tmp 18) (.tmp 25) (.const (.bool false))),.pt 27
 15 26],.k 27 (.q [.o [.f 2],.ret]) .skip]),.o [.bk 28 .add false 7 1,.m 7 28]]))],.o [.t 2],.ret]
def v1_:LF:=⟨1,29,zb_,[.tmp 2]⟩
theorem zF_:aC_ prog Tryz.f121 v1_:=az_
theorem iJ_(xs:List ByteArray)(hx:xs.length≤1048576)(hs:d5_ xs)(h:List Row):PureCall prog 121 [.list 0 1 (xs.map ak_)] h (.val (.bool (cF_ xs))):=by
 refine av_ mixed Tryz.func121 zF_ rfl rfl ?_ h
 simp(disch:=omega)only[v1_,zb_,go_sem,seval]
 refine a4_ (fun n t h=>∃k:Nat,t 0=.list 0 1 (xs.map ak_)∧t 5=.list 0 1 (xs.map ak_)∧t 6=.val (.int .i64 xs.length)∧t 7=.val (.int .i64 k)∧n=xs.length-k∧k≤xs.length∧(∀j,j<k→kp xs j=true)) (xs.length) ?_ ?_
 ·exact⟨0,rfl,rfl,rfl,rfl,rfl,Nat.zero_le _,fun j hj=>absurd hj (Nat.not_lt_zero j)⟩
 ·rintro J hJ n t h ⟨k,t0,t5,t6,k7,rfl,hk,hS⟩
  by_cases hlt:k<xs.length
  ·skip
   have hkp:=mP_ hlt
   simp(disch:=omega)only[t5,t6,k7,hlt,ak_,go_sem,seval]
   repeat' (first
    | exact am_ _ _
    | exact⟨xs.length-(k+1),by omega,hJ _ _ _ ⟨k+1,by simp[upd,t0],by simp[upd,t5],by simp[upd,t6],by simp[upd],rfl,by omega,by exact rp_ hS (by rw[hkp];simp only[*];rfl)⟩⟩
    | (refine af_ (hX_ hlt (by rw[hkp];simp only[*];rfl)).symm;done)
    | (refine af_ (fQ_ fun j hj=>hS j (by omega)).symm;done)
    | simp(disch:=omega)only[t0,k7,go_sem,seval]
    | (refine PureCall.call (dD_ _ (hs _ (getElem_mem hlt)) _) ?_)
    | (refine PureCall.q (dD_ _ (hs _ (getElem_mem hlt)) _) ?_)
    | ((first|(apply bz_;assumption)|(apply by_;assumption)|(apply bS_;assumption)|(apply bT_;assumption));intro hb;try simp only[hb])
    | ((first|(apply aT_;assumption)|(apply aR_;assumption)|(apply a6_;assumption)|(apply a7_;assumption));intro hb;try simp only[hb])
    | ((first|apply aQ_|apply aZ_|apply at_|apply as_)<;>intro hb<;>(try simp only[hb])<;>(first|have hp:=br_ hb|have hp:=bn_ hb|have hp:=bq_ hb|have hp:=bp_ hb|skip)))
  ·skip
   simp(disch:=omega)only[t6,k7,hlt,go_sem,↓reduceIte]
   repeat' (first
    | exact am_ _ _
    | (refine af_ (hX_ hlt (by rw[hkp];simp only[*];rfl)).symm;done)
    | (refine af_ (fQ_ fun j hj=>hS j (by omega)).symm;done)
    | simp(disch:=omega)only[t0,t5,t6,k7,go_sem,seval]
    | (refine PureCall.call (dD_ _ (hs _ (getElem_mem hlt)) _) ?_)
    | (refine PureCall.q (dD_ _ (hs _ (getElem_mem hlt)) _) ?_)
    | ((first|(apply bz_;assumption)|(apply by_;assumption)|(apply bS_;assumption)|(apply bT_;assumption));intro hb;try simp only[hb])
    | ((first|(apply aT_;assumption)|(apply aR_;assumption)|(apply a6_;assumption)|(apply a7_;assumption));intro hb;try simp only[hb])
    | ((first|apply aQ_|apply aZ_|apply at_|apply as_)<;>intro hb<;>(try simp only[hb])<;>(first|have hp:=br_ hb|have hp:=bn_ hb|have hp:=bq_ hb|have hp:=bp_ hb|skip)))
def plA(key:ByteArray):AV:=match b7_ key with|some p=>.val (.string p.1)|none=>.val (.string ⟨#[]⟩)
def plB(key:ByteArray):AV:=match b7_ key with|some p=>.list 0 1 (p.2.map ak_)|none=>.val (.slice none 0 0)
theorem tJ_(key:ByteArray):mJ_ (b7_ key)=.tup [plA key,plB key,.val (.bool (bC_ key))]:=by
 unfold plA plB bC_
 cases b7_ key with
 | none=>rfl
 | some p=>rfl
theorem eE_(key:ByteArray)(hk:key.size≤1048576)(h:List Row):PureCall prog 64 [.val (.string key)] h (.tup [plA key,plB key,.val (.bool (bC_ key))]):=by
 rw[←tJ_];exact lu_ key hk h
def Ag_:LC :=
 .q [.o [.f 2],.q [.o [.ki 3 0],.block 0 (.loop (.q [.q [.o [.m 7 3,.m 8 0,.ll 9 8,.bb 10 .lss false 7 9,.m 11 10,.gm 12 11 true 3,.g 13 11 true (.bin .leq false (.tmp 12) (.const (.int .i64 6))),.pf 14 11 13],
 .k 14 .skip (.exit 0)],.block 1 (.q [.o [.m 18 0,.m 19 3,.ia 20 1 18 19,.ln 21 20,.c1 22 64 21,.m 17 22,.ex 23 17 0,.ex 24 17 1,.ex 25 17 2,.m 4 23,.m 5 24,.m 6 25],.dops [.m 26 6,.nt 27 26,.m 28 27,.gm
 29 28 false 3,.g 30 28 false (.bin .gtr false (.tmp 29) (.const (.int .i64 0))),.gm 31 28 false 30,.gm 32 31 true 0,.gm 33 31 true 3,.g 34 31 true (.bin .sub false (.tmp 33) (.const (.int .i64 1))),.g 35 31 true
 (.indexAddr 1 (.tmp 32) (.tmp 34)),.gn 36 31 true 35,.gm 37 31 true 0,.gm 38 31 true 3,.g 39 31 true (.indexAddr 1 (.tmp 37) (.tmp 38)),.gn 40 31 true 39,.g 41 31 true (.bin .geq false (.tmp 36) (.tmp 40)),.g 42
 28 false (.pick (.tmp 31) (.tmp 41) (.const (.bool false))),.pt 43 28 42],.k 43 (.q [.o [.f 2],.ret]) .skip]),.o [.m 15 3,.bk 16 .add false 15 1,.m 3 16]]))],.o [.m 44 0,.ll 45 44,.bk 46 .leq false 45 6,.m 2
 46],.ret]
def wf_:LF:=⟨1,47,Ag_,[.tmp 2]⟩
theorem zx_:aC_ prog Tryz.f104 wf_:=az_
theorem lR_(xs:List ByteArray)(hx:xs.length≤1048576)(hs:d5_ xs)(h:List Row):PureCall prog 104 [.list 0 1 (xs.map ak_)] h (.val (.bool (cF_ xs&&decide ((xs.length:Int)≤6)))):=by
 refine av_ mixed Tryz.func104 zx_ rfl rfl ?_ h
 simp(disch:=omega)only[wf_,Ag_,go_sem]
 refine a4_ (fun n t h=>∃k:Nat,t 0=.list 0 1 (xs.map ak_)∧t 3=.val (.int .i64 k)∧n=xs.length-k∧k≤xs.length∧(∀j,j<k→kp xs j=true)) (xs.length) ?_ ?_
 ·exact⟨0,rfl,rfl,rfl,Nat.zero_le _,fun j hj=>absurd hj (Nat.not_lt_zero j)⟩
 ·rintro J hJ n t h ⟨k,t0,k3,rfl,hk,hS⟩
  by_cases hlt:k<xs.length
  ·skip
   have hkp:=mP_ hlt
   simp(disch:=omega)only[t0,k3,hlt,go_sem,seval]
   repeat' (first
    | exact am_ _ _
    | exact⟨xs.length-(k+1),by omega,hJ _ _ _ ⟨k+1,by simp[upd,t0],by simp[upd],rfl,by omega,by exact rp_ hS (by rw[hkp];simp only[*];rfl)⟩⟩
    | (refine af_ (by rw[hX_ hlt (by rw[hkp];simp only[*];rfl)];rfl);done)
    | (refine af_ (by rw[fQ_ fun j hj=>hS j (by omega)];rfl);done)
    | (refine af_ (by rw[show decide ((xs.length:Int)≤6)=false by rw[decide_eq_false_iff_not];have:=of_decide_eq_false hb;omega,Bool.and_false]);done)
    | simp(disch:=omega)only[t0,k3,go_sem,seval]
    | (refine PureCall.call (eE_ _ (hs _ (getElem_mem hlt)) _) ?_)
    | (refine PureCall.q (eE_ _ (hs _ (getElem_mem hlt)) _) ?_)
    | ((first|(apply bz_;assumption)|(apply by_;assumption)|(apply bS_;assumption)|(apply bT_;assumption));intro hb;try simp only[hb])
    | ((first|(apply aT_;assumption)|(apply aR_;assumption)|(apply a6_;assumption)|(apply a7_;assumption));intro hb;try simp only[hb])
    | ((first|(apply mj_;assumption)|(apply lZ_;assumption)|(apply oR_;assumption)|(apply oX_;assumption));intro hb;try simp only[hb])
    | ((first|apply aQ_|apply aZ_|apply at_|apply as_|apply hl_|apply h4_)<;>intro hb<;>(try simp only[hb])<;>(first|have hp:=br_ hb|have hp:=bn_ hb|have hp:=bq_ hb|have hp:=bp_ hb|skip)))
  ·skip
   simp(disch:=omega)only[t0,k3,hlt,go_sem,seval]
   repeat' (first
    | exact am_ _ _
    | (refine af_ (by rw[hX_ hlt (by rw[hkp];simp only[*];rfl)];rfl);done)
    | (refine af_ (by rw[fQ_ fun j hj=>hS j (by omega)];rfl);done)
    | (refine af_ (by rw[show decide ((xs.length:Int)≤6)=false by rw[decide_eq_false_iff_not];have:=of_decide_eq_false hb;omega,Bool.and_false]);done)
    | simp(disch:=omega)only[t0,k3,go_sem,seval]
    | (refine PureCall.call (eE_ _ (hs _ (getElem_mem hlt)) _) ?_)
    | (refine PureCall.q (eE_ _ (hs _ (getElem_mem hlt)) _) ?_)
    | ((first|(apply bz_;assumption)|(apply by_;assumption)|(apply bS_;assumption)|(apply bT_;assumption));intro hb;try simp only[hb])
    | ((first|(apply aT_;assumption)|(apply aR_;assumption)|(apply a6_;assumption)|(apply a7_;assumption));intro hb;try simp only[hb])
    | ((first|(apply mj_;assumption)|(apply lZ_;assumption)|(apply oR_;assumption)|(apply oX_;assumption));intro hb;try simp only[hb])
    | ((first|apply aQ_|apply aZ_|apply at_|apply as_|apply hl_|apply h4_)<;>intro hb<;>(try simp only[hb])<;>(first|have hp:=br_ hb|have hp:=bn_ hb|have hp:=bq_ hb|have hp:=bp_ hb|skip)))
def pageB(p:ap_):Bool :=
 cF_ p.Keys&&(if p.Leaf=true then decide ((p.Keys.length:Int)≤6)&&decide ((p.Vals.length:Int)=p.Keys.length)&&p.Vals.all (fun v=>decide ((v.size:Int)≤64))&&decide (p.Kids.length=0)
  else ba_ p.Kids.length 2 6&&decide ((p.Keys.length:Int)=p.Kids.length-1)&&decide (p.Vals.length=0)&&p.Kids.all (fun k=>ba_ k 1 64))
def c78:LC :=
 .q [.o [.f 2],.o [.m 3 0,.s 4 (.lenStr (.tmp 3)),.bk 5 .gtr false 4 64,.m 2 5],.ret]
def zS_:LF:=⟨1,6,c78,[.tmp 2]⟩
theorem AV_:aC_ prog Tryz.f78 zS_:=az_
theorem ig_(s:ByteArray)  (h:List Row):PureCall prog 78 [.val (.string s)] h (.val (.bool (!decide ((s.size:Int)≤64)))):=by
 refine av_ mixed Tryz.func78 AV_ rfl rfl ?_ h
 simp(disch:=omega)only[zS_,c78,go_sem,seval]
 repeat' (first
  | exact am_ _ _
  | (refine af_ ?_;rw[A9_];congr 1;simp;done)
  | simp(disch:=omega)only[go_sem,seval]
  | ((first|(apply aT_;assumption)|(apply aR_;assumption)|(apply a6_;assumption)|(apply a7_;assumption));intro hb;try simp only[hb])
  | ((first|apply at_|apply as_)<;>intro hb<;>(try simp only[hb])<;>(first|have hp:=br_ hb|have hp:=bn_ hb|have hp:=bq_ hb|have hp:=bp_ hb|skip)))
def yE_:LC :=
 .q [.o [.f 2],.o [.m 3 0,.s 4 (.call 73 [.tmp 3,.const (.int .i64 1),.const (.int .i64 64)]),.nt 5 4,.m 2 5],.ret]
def wo_:LF:=⟨1,6,yE_,[.tmp 2]⟩
theorem yb_:aC_ prog Tryz.f124 wo_:=az_
theorem g3_(k:Int)  (h:List Row):PureCall prog 124 [.val (.int .i64 k)] h (.val (.bool (!ba_ k 1 64))):=by
 refine av_ mixed Tryz.func124 yb_ rfl rfl ?_ h
 simp(disch:=omega)only[wo_,yE_,go_sem,seval]
 repeat' (first
  | exact am_ _ _
  | simp(disch:=omega)only[go_sem,↓reduceIte]
  | (refine PureCall.call (cS_ _ _ _ _) ?_)
  | (refine PureCall.q (cS_ _ _ _ _) ?_)
  | ((first|(apply aT_;assumption)|(apply aR_;assumption)|(apply a6_;assumption)|(apply a7_;assumption));intro hb;try simp only[hb])
  | ((first|apply at_|apply as_)<;>intro hb<;>(try simp only[hb])<;>(first|have hp:=br_ hb|have hp:=bn_ hb|have hp:=bq_ hb|have hp:=bp_ hb|skip)))
def c37:LC :=
 .q [.o [.f 2],.o [.m 3 0,.s 4 (.call 77 [.tmp 3,.func 78]),.m 2 4],.ret]
def zL_:LF:=⟨1,5,c37,[.tmp 2]⟩
theorem AE_:aC_ prog Tryz.f37 zL_:=az_
theorem hz_(xs:List ByteArray)(hx:xs.length≤1048576)(h:List Row):PureCall prog 37 [.list 0 1 (xs.map ak_)] h (.val (.bool (!xs.all fun v=>decide ((v.size:Int)≤64)))):=by
 refine av_ mixed Tryz.func37 AE_ rfl rfl ?_ h
 simp(disch:=omega)only[zL_,c37,go_sem,seval]
 repeat' (first
  | exact am_ _ _
  | (refine af_ ?_;rw[←hu_];simp;done)
  | simp(disch:=omega)only[go_sem,↓reduceIte]
  | (refine PureCall.call (cc_ _ (fun s=>!decide ((s.size:Int)≤64)) 78 hx (by kernel_rfl) (fun x _ h=>ig_ x h) _) ?_)
  | (refine PureCall.q (cc_ _ (fun s=>!decide ((s.size:Int)≤64)) 78 hx (by kernel_rfl) (fun x _ h=>ig_ x h) _) ?_)
  | ((first|(apply aT_;assumption)|(apply aR_;assumption)|(apply a6_;assumption)|(apply a7_;assumption));intro hb;try simp only[hb])
  | ((first|apply at_|apply as_)<;>intro hb<;>(try simp only[hb])<;>(first|have hp:=br_ hb|have hp:=bn_ hb|have hp:=bq_ hb|have hp:=bp_ hb|skip)))
def xM_:LC :=
 .q [.o [.ki 2 0],.o [.m 3 0,.ll 4 3,.m 2 4],.ret]
def vW_:LF:=⟨1,5,xM_,[.tmp 2]⟩
theorem y6_:aC_ prog Tryz.f122 vW_:=az_
theorem ge_(xs:List Int)  (h:List Row):PureCall prog 122 [.list 0 1 (xs.map aK_)] h (.val (.int .i64 xs.length)):=by
 refine av_ mixed Tryz.func122 y6_ rfl rfl ?_ h
 simp(disch:=omega)only[vW_,xM_,go_sem,seval]
 repeat' (first
  | exact am_ _ _
  | simp(disch:=omega)only[go_sem,seval]
  | ((first|(apply aT_;assumption)|(apply aR_;assumption)|(apply a6_;assumption)|(apply a7_;assumption));intro hb;try simp only[hb])
  | ((first|apply at_|apply as_)<;>intro hb<;>(try simp only[hb])<;>(first|have hp:=br_ hb|have hp:=bn_ hb|have hp:=bq_ hb|have hp:=bp_ hb|skip)))
def xW_:LC :=
 .q [.o [.ki 4 0],.q [.o [.m 6 0,.ll 7 6,.ki 8 0],.block 0 (.loop (.q [.o [.bb 9 .lss false 8 7],.k 9 .skip (.exit 0),.block 1 (.q [.o [.m 10 8,.m 5 10],.o [.m 11 1,.m 12 0,.m 13 5,.ia 14 1 12 13,.ln 15 14,.s
 16 (.callv (.tmp 11) [.tmp 15])],.k 16 (.q [.o [.m 17 5,.m 4 17],.ret]) .skip]),.o [.bk 18 .add false 8 1,.m 8 18]]))],.o [.s 4 (.mov (.const (.int .i64 (-1))))],.ret]
def v3_:LF:=⟨2,19,xW_,[.tmp 4]⟩
theorem y0_:aC_ prog Tryz.f156 v3_:=az_
theorem hc_(xs:List Int)(p:Int→Bool)(g:Nat)(hx:xs.length≤1048576)(hc:cB_ prog g=true)(hp:∀x∈xs,∀h,PureCall prog g [.val (.int .i64 x)] h (.val (.bool (p x))))(h:List Row) :
 PureCall prog 156 [.list 0 1 (xs.map aK_),.fn g [] []] h (.val (.int .i64 (bR_ p xs 0))):=by
 refine av_ mixed Tryz.func156 y0_ rfl rfl ?_ h
 simp(disch:=omega)only[v3_,xW_,go_sem,seval]
 refine a4_ (fun n t h=>∃k:Nat,t 0=.list 0 1 (xs.map aK_)∧t 1=.fn g [] []∧t 6=.list 0 1 (xs.map aK_)∧t 7=.val (.int .i64 xs.length)∧t 8=.val (.int .i64 k)∧n=xs.length-k∧k≤xs.length∧(bR_ p xs 0=bR_ p (xs.drop k) k)) (xs.length) ?_ ?_
 ·exact⟨0,rfl,rfl,rfl,rfl,rfl,rfl,Nat.zero_le _,rfl⟩
 ·rintro J hJ n t h ⟨k,t0,t1,t6,t7,k8,rfl,hk,hS⟩
  by_cases hlt:k<xs.length
  ·skip
   rw[ga_ p xs k hlt]at hS
   simp(disch:=omega)only[t0,t1,t7,k8,hlt,hc,go_sem,seval]
   repeat' (first
    | exact am_ _ _
    | exact⟨xs.length-(k+1),by omega,hJ _ _ _ ⟨k+1,by simp[upd,t0],by simp[upd,t1],by simp[upd,t6],by simp[upd,t7],by simp[upd],rfl,by omega,by rw[hS];simp[*]⟩⟩
    | (refine aM_ ?_;rw[hS];simp[*];done)
    | (refine aM_ ?_;rw[hS,dl_ _ _ _ (by omega)])
    | simp(disch:=omega)only[k8,go_sem,seval]
    | (refine PureCall.call (hp xs[k] (getElem_mem hlt) _) ?_)
    | (refine PureCall.q (hp xs[k] (getElem_mem hlt) _) ?_)
    | ((first|(apply aT_;assumption)|(apply aR_;assumption)|(apply a6_;assumption)|(apply a7_;assumption));intro hb;try simp only[hb])
    | ((first|apply at_|apply as_)<;>intro hb<;>(try simp only[hb])<;>(first|have hp:=br_ hb|have hp:=bn_ hb|have hp:=bq_ hb|have hp:=bp_ hb|skip)))
  ·skip
   simp(disch:=omega)only[t7,k8,hlt,go_sem,seval]
   repeat' (first
    | exact am_ _ _
    | (refine aM_ ?_;rw[hS];simp[*];done)
    | (refine aM_ ?_;rw[hS,dl_ _ _ _ (by omega)])
    | simp(disch:=omega)only[t0,t1,t6,t7,k8,go_sem,seval]
    | (refine PureCall.call (hp xs[k] (getElem_mem hlt) _) ?_)
    | (refine PureCall.q (hp xs[k] (getElem_mem hlt) _) ?_)
    | ((first|(apply aT_;assumption)|(apply aR_;assumption)|(apply a6_;assumption)|(apply a7_;assumption));intro hb;try simp only[hb])
    | ((first|apply at_|apply as_)<;>intro hb<;>(try simp only[hb])<;>(first|have hp:=br_ hb|have hp:=bn_ hb|have hp:=bq_ hb|have hp:=bp_ hb|skip)))
def zd_:LC :=
 .q [.o [.f 4],.o [.m 5 0,.m 6 1,.c2 7 156 5 6,.bk 8 .geq false 7 0,.m 4 8],.ret]
def wa_:LF:=⟨2,9,zd_,[.tmp 4]⟩
theorem x5_:aC_ prog Tryz.f123 wa_:=az_
theorem ee_(xs:List Int)(p:Int→Bool)(g:Nat)(hx:xs.length≤1048576)(hc:cB_ prog g=true)(hp:∀x∈xs,∀h,PureCall prog g [.val (.int .i64 x)] h (.val (.bool (p x))))(h:List Row) :
 PureCall prog 123 [.list 0 1 (xs.map aK_),.fn g [] []] h (.val (.bool (xs.any p))):=by
 refine av_ mixed Tryz.func123 x5_ rfl rfl ?_ h
 simp(disch:=omega)only[wa_,zd_,go_sem,seval]
 refine PureCall.call (hc_ xs p g hx hc hp _) ?_
 simp(disch:=omega)only[go_sem,↓reduceIte]
 exact af_ (ir_ p xs)
def c74:LC :=
 .q [.o [.bx 1 77 0,.f 2],.q [.o [.fa 3 1 1,.ln 4 3,.c1 5 121 4,.nt 6 5],.k 6 (.q [.o [.f 2],.ret]) .skip],.q [.o [.fa 7 0 1,.ln 8 7],.k 8 (.q [.o [.fa 9 1 1,.ln 10 9,.ll 11 10,.bk 12 .leq false 11 6,.m 13
 12,.gf 14 13 true 2 1,.gn 15 13 true 14,.g 16 13 true (.lenSl (.tmp 15)),.gf 17 13 true 1 1,.gn 18 13 true 17,.g 19 13 true (.lenSl (.tmp 18)),.g 20 13 true (.bin .eql false (.tmp 16) (.tmp 19)),.pf 21 13 20,.m
 22 21,.gf 23 22 true 2 1,.gn 24 22 true 23,.gc 25 22 true 37 24,.gu 26 22 true 25,.pf 27 22 26,.m 28 27,.gf 29 28 true 3 1,.gn 30 28 true 29,.g 31 28 true (.lenSl (.tmp 30)),.g 32 28 true (.bin .eql false (.tmp
 31) (.const (.int .i64 0))),.pf 33 28 32,.m 2 33],.ret]) .skip],.q [.o [.fa 34 3 1,.ln 35 34,.c1 36 122 35,.s 37 (.call 73 [.tmp 36,.const (.int .i64 2),.const (.int .i64 6)]),.nt 38 37,.m 39 38,.gf 40 39
 false 1 1,.gn 41 39 false 40,.g 42 39 false (.lenSl (.tmp 41)),.gf 43 39 false 3 1,.gn 44 39 false 43,.g 45 39 false (.lenSl (.tmp 44)),.g 46 39 false (.bin .sub false (.tmp 45) (.const (.int .i64 1))),.g 47 39
 false (.bin .neq false (.tmp 42) (.tmp 46)),.pt 48 39 47,.m 49 48,.gf 50 49 false 2 1,.gn 51 49 false 50,.g 52 49 false (.lenSl (.tmp 51)),.g 53 49 false (.bin .neq false (.tmp 52) (.const (.int .i64 0))),.pt 54
 49 53],.k 54 (.q [.o [.f 2],.ret]) .skip],.o [.fa 55 3 1,.ln 56 55,.s 57 (.call 123 [.tmp 56,.func 124]),.nt 58 57,.m 2 58],.ret]
def yx_:LF:=⟨1,59,c74,[.tmp 2]⟩
theorem AS_:aC_ prog Tryz.f74 yx_:=az_
theorem m4_(p:ap_)(hk:p.Keys.length≤1048576)(hv:p.Vals.length≤1048576)(hd:p.Kids.length≤1048576)(hs:d5_ p.Keys)(h:List Row):PureCall prog 74 [.agg (ap_.cells p)] h (.val (.bool (pageB p))):=by
 refine av_ mixed Tryz.func74 AS_ rfl rfl ?_ h
 simp(disch:=omega)only[yx_,c74,ap_.cells,go_sem,seval]
 repeat' (first
  | exact am_ _ _
  | (refine af_ ?_;first|rfl|(simp only[pageB, *,Bool.true_and,Bool.and_false,Bool.false_and,decide_true,decide_false,Bool.and_self];done)|(simp[pageB, *];done))
  | (refine af_ ?_;first|rfl|(simp only[pageB,hu_, *,Bool.true_and,Bool.and_false,Bool.false_and,Bool.and_self];done)|(simp[pageB,hu_, *];done))
  | (refine af_ ?_;simp_all[pageB,hu_];done)
  | (refine af_ ?_;simp_all[pageB,hu_];omega)
  | simp(disch:=omega)only[go_sem,seval]
  | (refine PureCall.call (iJ_ _ hk hs _) ?_)
  | (refine PureCall.q (iJ_ _ hk hs _) ?_)
  | (refine PureCall.call (hz_ _ hv _) ?_)
  | (refine PureCall.q (hz_ _ hv _) ?_)
  | (refine PureCall.call (ge_ _ _) ?_)
  | (refine PureCall.q (ge_ _ _) ?_)
  | (refine PureCall.call (cS_ _ _ _ _) ?_)
  | (refine PureCall.q (cS_ _ _ _ _) ?_)
  | (refine PureCall.call (ee_ _ (fun k=>!ba_ k 1 64) 124 hd (by kernel_rfl) (fun x _ h=>g3_ x h) _) ?_)
  | (refine PureCall.q (ee_ _ (fun k=>!ba_ k 1 64) 124 hd (by kernel_rfl) (fun x _ h=>g3_ x h) _) ?_)
  | ((first|(apply bz_;assumption)|(apply by_;assumption)|(apply bS_;assumption)|(apply bT_;assumption));intro hb;try simp only[hb])
  | ((first|(apply aT_;assumption)|(apply aR_;assumption)|(apply a6_;assumption)|(apply a7_;assumption));intro hb;try simp only[hb])
  | ((first|apply aQ_|apply aZ_|apply at_|apply as_)<;>intro hb<;>(try simp only[hb])<;>(first|have hp:=br_ hb|have hp:=bn_ hb|have hp:=bq_ hb|have hp:=bp_ hb|skip)))
theorem kS_{α:Type}{p:α→Bool}{xs:List α}{k:Nat}(h:k<xs.length)(hb:p xs[k]=false):xs.all p=false:=by
 rw[all_eq_false];exact⟨xs[k],getElem_mem h,by simp[hb]⟩
theorem jp_{α:Type}{p:α→Bool}{xs:List α}(hS:∀(j:Nat) (h:j<xs.length),p xs[j]=true):xs.all p=true:=by
 rw[all_eq_true]
 intro x hx
 obtain⟨j,hj,rfl⟩:=mem_iff_getElem.1 hx
 exact hS j hj
theorem qh_{α:Type}{p:α→Bool}{xs:List α}{k:Nat}(hS:∀(j:Nat) (h:j<xs.length),j<k→p xs[j]=true)(h:k<xs.length)(q:p xs[k]=true):∀(j:Nat) (h:j<xs.length),j<k+1→p xs[j]=true:=by
 intro j hj hjk
 rcases Nat.lt_or_ge j k with q2|q2
 ·exact hS j hj q2
 ·have:j=k:=by omega
  subst this;exact q
def c58:LC :=
 .q [.o [.bx 1 77 0,.f 2],.q [.o [.fa 5 1 1,.ln 6 5,.c1 7 104 6,.nt 8 7],.k 8 (.q [.o [.f 2],.ret]) .skip],.q [.o [.fa 9 0 1,.ln 10 9],.k 10 (.q [.q [.o [.ki 3 0],.block 0 (.loop (.q [.q [.o [.m 11 3,.fa 12 2
 1,.ln 13 12,.ll 14 13,.bb 15 .lss false 11 14,.m 16 15,.gm 17 16 true 3,.g 18 16 true (.bin .leq false (.tmp 17) (.const (.int .i64 6))),.pf 19 16 18],.k 19 .skip (.exit 0)],.block 1 (.q [.o [.fa 22 2 1,.ln 23
 22,.m 24 3,.ia 25 1 23 24,.ln 26 25,.s 27 (.lenStr (.tmp 26)),.bk 28 .gtr false 27 64],.k 28 (.q [.o [.f 2],.ret]) .skip]),.o [.m 20 3,.bk 21 .add false 20 1,.m 3 21]]))],.o [.fa 29 2 1,.ln 30 29,.ll 31 30,
 .fa 32 1 1,.ln 33 32,.ll 34 33,.bb 35 .eql false 31 34,.m 36 35,.gf 37 36 true 3 1,.gn 38 36 true 37,.g 39 36 true (.lenSl (.tmp 38)),.g 40 36 true (.bin .eql false (.tmp 39) (.const (.int .i64 0))),.pf 41 36
 40,.m 2 41],.ret]) .skip],.q [.o [.ki 4 0],.block 2 (.loop (.q [.q [.o [.m 42 4,.fa 43 3 1,.ln 44 43,.ll 45 44,.bb 46 .lss false 42 45,.m 47 46,.gm 48 47 true 4,.g 49 47 true (.bin .leq false (.tmp 48) (.const
 (.int .i64 6))),.pf 50 47 49],.k 50 .skip (.exit 2)],.block 3 (.q [.o [.fa 53 3 1,.ln 54 53,.m 55 4,.ia 56 1 54 55,.ln 57 56,.s 58 (.call 57 [.tmp 57,.const (.int .i64 1),.const (.int .i64 64)]),.nt 59 58],.k
 59 (.q [.o [.f 2],.ret]) .skip]),.o [.m 51 4,.bk 52 .add false 51 1,.m 4 52]]))],.o [.fa 60 3 1,.ln 61 60,.ll 62 61,.s 63 (.call 57 [.tmp 62,.const (.int .i64 2),.const (.int .i64 6)]),.m 64 63,.gf 65 64 true
 1 1,.gn 66 64 true 65,.g 67 64 true (.lenSl (.tmp 66)),.gf 68 64 true 3 1,.gn 69 64 true 68,.g 70 64 true (.lenSl (.tmp 69)),.g 71 64 true (.bin .sub false (.tmp 70) (.const (.int .i64 1))),.g 72 64 true (.bin
 .eql false (.tmp 67) (.tmp 71)),.pf 73 64 72,.m 74 73,.gf 75 74 true 2 1,.gn 76 74 true 75,.g 77 74 true (.lenSl (.tmp 76)),.g 78 74 true (.bin .eql false (.tmp 77) (.const (.int .i64 0))),.pf 79 74 78,.m 2 79],
 .ret]
def yG_:LF:=⟨1,80,c58,[.tmp 2]⟩
theorem AX_:aC_ prog Tryz.f58 yG_:=az_
theorem iG_(p:ap_)(hk:p.Keys.length≤1048576)(hv:p.Vals.length≤1048576)(hd:p.Kids.length≤1048576)(hs:d5_ p.Keys)(h:List Row):PureCall prog 58 [.agg (ap_.cells p)] h (.val (.bool (pageB p))):=by
 refine av_ mixed Tryz.func58 AX_ rfl rfl ?_ h
 simp(disch:=omega)only[yG_,c58,ap_.cells,go_sem,seval]
 refine PureCall.call (lR_ _ hk hs _) ?_
 cases hK:cF_ p.Keys
 ·simp(disch:=omega)only[Bool.false_and,go_sem,↓reduceIte]
  exact af_ (by simp[pageB,hK])
 by_cases h6:(p.Keys.length:Int)≤6
 case neg =>
  have h6':decide ((p.Keys.length:Int)≤6)=false:=decide_eq_false h6
  simp(disch:=omega)only[h6',Bool.and_false,go_sem,↓reduceIte]
  refine af_ ?_
  rw[pageB,h6',hK]
  cases p.Leaf
  ·have:(ba_ p.Kids.length 2 6&&decide ((p.Keys.length:Int)=p.Kids.length-1))=false:=by
    rw[Bool.eq_false_iff];intro q
    simp only[ba_,Bool.and_eq_true,decide_eq_true_eq]at q
    omega
   simp[this]
  ·simp
 have h6':decide ((p.Keys.length:Int)≤6)=true:=decide_eq_true h6
 cases hL:p.Leaf
 ·simp(disch:=omega)only[h6',Bool.and_true,go_sem,seval]
  refine a4_ (fun n t h=>∃k:Nat,t 1=.ptr 0 1 0 0∧t 4=.val (.int .i64 k)∧h[0]?=some ⟨77,4,[[.val (.bool false),.list 0 1 (p.Keys.map ak_),.list 0 1 (p.Vals.map ak_),.list 0 1 (p.Kids.map aK_)]]⟩∧n=p.Kids.length-k∧k≤p.Kids.length∧(∀(j:Nat) (h:j<p.Kids.length),j<k→ba_ p.Kids[j] 1 64=true)) (p.Kids.length) ?_ ?_
  ·exact⟨0,rfl,rfl,rfl,rfl,Nat.zero_le _,fun j _ hj=>absurd hj (Nat.not_lt_zero j)⟩
  ·rintro J hJ n t h ⟨k,t1,k4,o0,rfl,hk,hS⟩
   have p0:∀l,(h++l)[0]?=some ⟨77,4,[[.val (.bool false),.list 0 1 (p.Keys.map ak_),.list 0 1 (p.Vals.map ak_),.list 0 1 (p.Kids.map aK_)]]⟩:=fun l=>nv_ o0
   by_cases hlt:k<p.Kids.length
   ·skip
    simp(disch:=omega)only[t1,k4,o0,hlt,go_sem,seval]
    repeat' (first
     | exact am_ _ _
     | exact⟨p.Kids.length-(k+1),by omega,hJ _ _ _ ⟨k+1,by simp[upd,t1],by simp[upd],by first|exact o0|exact p0 _,rfl,by omega,by exact qh_ (p:=fun k=>ba_ k 1 64) hS hlt (by simp_all)⟩⟩
     | (refine af_ (by rw[pageB,hK,hL];have:=kS_ (p:=fun k=>ba_ k 1 64) hlt hb;simp only[this,Bool.and_false,Bool.false_eq_true,if_false]);done)
     | (refine af_ (by rw[pageB,hK,hL,h6'];have hall:=jp_ (p:=fun k=>ba_ k 1 64) (fun j hj=>hS j hj (by omega));simp_all);done)
     | (refine af_ (by rw[pageB,hK,hL];have hw:ba_ p.Kids.length 2 6=false:=(by rw[Bool.eq_false_iff];intro q;simp only[ba_,Bool.and_eq_true,decide_eq_true_eq]at q;omega);simp_all);done)
     | simp(disch:=omega)only[t1,k4,o0,go_sem,seval]
     | (refine PureCall.call (cK_ _ _ _ _) ?_)
     | (refine PureCall.q (cK_ _ _ _ _) ?_)
     | ((first|(apply bz_;assumption)|(apply by_;assumption)|(apply bS_;assumption)|(apply bT_;assumption));intro hb;try simp only[hb])
     | ((first|(apply aT_;assumption)|(apply aR_;assumption)|(apply a6_;assumption)|(apply a7_;assumption));intro hb;try simp only[hb])
     | ((first|apply aQ_|apply aZ_|apply at_|apply as_)<;>intro hb<;>(try simp only[hb])<;>(first|have hp:=br_ hb|have hp:=bn_ hb|have hp:=bq_ hb|have hp:=bp_ hb|skip)))
   ·skip
    simp(disch:=omega)only[t1,k4,o0,hlt,go_sem,seval]
    repeat' (first
     | exact am_ _ _
     | (refine af_ (by rw[pageB,hK,hL];have:=kS_ (p:=fun k=>ba_ k 1 64) hlt hb;simp only[this,Bool.and_false,Bool.false_eq_true,if_false]);done)
     | (refine af_ (by rw[pageB,hK,hL,h6'];have hall:=jp_ (p:=fun k=>ba_ k 1 64) (fun j hj=>hS j hj (by omega));simp_all);done)
     | (refine af_ (by rw[pageB,hK,hL];have hw:ba_ p.Kids.length 2 6=false:=(by rw[Bool.eq_false_iff];intro q;simp only[ba_,Bool.and_eq_true,decide_eq_true_eq]at q;omega);simp_all);done)
     | simp(disch:=omega)only[t1,o0,go_sem,seval]
     | (refine PureCall.call (cK_ _ _ _ _) ?_)
     | (refine PureCall.q (cK_ _ _ _ _) ?_)
     | ((first|(apply bz_;assumption)|(apply by_;assumption)|(apply bS_;assumption)|(apply bT_;assumption));intro hb;try simp only[hb])
     | ((first|(apply aT_;assumption)|(apply aR_;assumption)|(apply a6_;assumption)|(apply a7_;assumption));intro hb;try simp only[hb])
     | ((first|apply aQ_|apply aZ_|apply at_|apply as_)<;>intro hb<;>(try simp only[hb])<;>(first|have hp:=br_ hb|have hp:=bn_ hb|have hp:=bq_ hb|have hp:=bp_ hb|skip)))
 ·simp(disch:=omega)only[h6',Bool.and_true,go_sem,seval]
  refine a4_ (fun n t h=>∃k:Nat,t 1=.ptr 0 1 0 0∧t 3=.val (.int .i64 k)∧h[0]?=some ⟨77,4,[[.val (.bool true),.list 0 1 (p.Keys.map ak_),.list 0 1 (p.Vals.map ak_),.list 0 1 (p.Kids.map aK_)]]⟩∧n=p.Vals.length-k∧k≤p.Vals.length∧(∀(j:Nat) (h:j<p.Vals.length),j<k→decide ((p.Vals[j].size:Int)≤64)=true)) (p.Vals.length) ?_ ?_
  ·exact⟨0,rfl,rfl,rfl,rfl,Nat.zero_le _,fun j _ hj=>absurd hj (Nat.not_lt_zero j)⟩
  ·rintro J hJ n t h ⟨k,t1,k3,o0,rfl,hk,hS⟩
   have p0:∀l,(h++l)[0]?=some ⟨77,4,[[.val (.bool true),.list 0 1 (p.Keys.map ak_),.list 0 1 (p.Vals.map ak_),.list 0 1 (p.Kids.map aK_)]]⟩:=fun l=>nv_ o0
   by_cases hlt:k<p.Vals.length
   ·skip
    simp(disch:=omega)only[t1,k3,o0,hlt,go_sem,seval]
    repeat' (first
     | exact am_ _ _
     | exact⟨p.Vals.length-(k+1),by omega,hJ _ _ _ ⟨k+1,by simp[upd,t1],by simp[upd],by first|exact o0|exact p0 _,rfl,by omega,by exact qh_ (p:=fun v:ByteArray=>decide ((v.size:Int)≤64)) hS hlt (by rw[decide_eq_true_eq];have:=of_decide_eq_false hb;omega)⟩⟩
     | (exfalso;have hb2:=of_decide_eq_true hb;omega)
     | (refine af_ (by rw[pageB,hK,hL];have:=kS_ (p:=fun v:ByteArray=>decide ((v.size:Int)≤64)) hlt (by rw[decide_eq_false_iff_not];have:=of_decide_eq_true hb;omega);simp only[this,Bool.and_false,Bool.false_and,if_true]);done)
     | (refine af_ (by rw[pageB,hK,hL,h6'];have hall:=jp_ (p:=fun v:ByteArray=>decide ((v.size:Int)≤64)) (fun j hj=>hS j hj (by omega));simp_all);done)
     | (refine af_ (by rw[pageB,hK,hL];have hw:decide ((p.Vals.length:Int)=p.Keys.length)=false:=(by rw[decide_eq_false_iff_not];omega);simp_all);done)
     | simp(disch:=omega)only[t1,k3,o0,go_sem,seval]
     | ((first|(apply bz_;assumption)|(apply by_;assumption)|(apply bS_;assumption)|(apply bT_;assumption));intro hb;try simp only[hb])
     | ((first|(apply aT_;assumption)|(apply aR_;assumption)|(apply a6_;assumption)|(apply a7_;assumption));intro hb;try simp only[hb])
     | ((first|apply aQ_|apply aZ_|apply at_|apply as_)<;>intro hb<;>(try simp only[hb])<;>(first|have hp:=br_ hb|have hp:=bn_ hb|have hp:=bq_ hb|have hp:=bp_ hb|skip)))
   ·skip
    simp(disch:=omega)only[t1,k3,o0,hlt,go_sem,seval]
    repeat' (first
     | exact am_ _ _
     | (exfalso;have hb2:=of_decide_eq_true hb;omega)
     | (refine af_ (by rw[pageB,hK,hL];have:=kS_ (p:=fun v:ByteArray=>decide ((v.size:Int)≤64)) hlt (by rw[decide_eq_false_iff_not];have:=of_decide_eq_true hb;omega);simp only[this,Bool.and_false,Bool.false_and,Bool.false_eq_true,if_true]);done)
     | (refine af_ (by rw[pageB,hK,hL,h6'];have hall:=jp_ (p:=fun v:ByteArray=>decide ((v.size:Int)≤64)) (fun j hj=>hS j hj (by omega));simp_all);done)
     | (refine af_ (by rw[pageB,hK,hL];have hw:decide ((p.Vals.length:Int)=p.Keys.length)=false:=(by rw[decide_eq_false_iff_not];omega);simp_all);done)
     | simp(disch:=omega)only[t1,o0,go_sem,seval]
     | ((first|(apply bz_;assumption)|(apply by_;assumption)|(apply bS_;assumption)|(apply bT_;assumption));intro hb;try simp only[hb])
     | ((first|(apply aT_;assumption)|(apply aR_;assumption)|(apply a6_;assumption)|(apply a7_;assumption));intro hb;try simp only[hb])
     | ((first|apply aQ_|apply aZ_|apply at_|apply as_)<;>intro hb<;>(try simp only[hb])<;>(first|have hp:=br_ hb|have hp:=bn_ hb|have hp:=bq_ hb|have hp:=bp_ hb|skip)))
end Go.Proofs.YtlcmlgihlojdmaaGreatDoor
