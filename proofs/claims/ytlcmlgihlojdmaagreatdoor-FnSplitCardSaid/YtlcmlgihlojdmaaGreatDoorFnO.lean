/-
 Contracts of functions. Conditions: as each theorem says.
-/
import Derived.Test.YtlcmlgihlojdmaaGreatDoorBase
import Derived.Test.YtlcmlgihlojdmaaGreatDoorShelf
import Derived.Test.YtlcmlgihlojdmaaGreatDoorAwC
import Derived.Test.YtlcmlgihlojdmaaGreatDoorPlNum
namespace Go.Proofs.YtlcmlgihlojdmaaGreatDoor
open Tryz (prog)
open List
open Go.AW
set_option linter.unusedVariables false
set_option linter.unusedSimpArgs false
set_option maxRecDepth 4000
theorem gf_(l cs:List UInt8)(hcs:cs.length<4294967281)(ha:∀b∈cs,b.toNat<128)(h:List Row) :
 PureCall prog 238 [.val (.string (txt l)),.val (.string (txt cs))] h (.val (.string (txt (l.dropWhile (cs.contains ·))))):=by
 refine f4_ (vals:=[.string (txt l),.string (txt cs)]) (fun w _=>?_) h
 have:=Any.strings_TrimLeft_laid Tryz.lays161 (by kernel_rfl) (txt l) (txt cs) w (by rw[bb_];exact hcs) (by rw[bg_];intro j b hb;exact ha b (mem_of_getElem? hb))
 rw[bg_,bg_]at this
 exact this
theorem dg_(l cs:List UInt8)(hl:l.length≤9223372036854775807)(hcs:cs.length<4294967281)(ha:∀b∈cs,b.toNat<128)(h:List Row) :
 PureCall prog 233 [.val (.string (txt l)),.val (.string (txt cs))] h (.val (.string (txt ((l.reverse.dropWhile (cs.contains ·)).reverse)))):=by
 refine f4_ (vals:=[.string (txt l),.string (txt cs)]) (fun w _=>?_) h
 have:=Any.strings_TrimRight_laid Tryz.lays162 (by kernel_rfl) (txt l) (txt cs) w (by rw[bb_];exact hl) (by rw[bb_];exact hcs) (by rw[bg_];intro j b hb;exact ha b (mem_of_getElem? hb))
 rw[bg_,bg_]at this
 exact this
theorem lp_(l:List UInt8)(c:UInt8)(h:List Row) :
 PureCall prog 239 [.val (.string (txt l)),.val (.string (txt [c]))] h (.val (.int .i64 (l.count c))):=by
 refine f4_ (vals:=[.string (txt l),.string (txt [c])]) (fun w _=>?_) h
 have:=Any.strings_Count_one Tryz.lays138 (txt l) c w
 rw[bg_]at this
 refine this.mono ?_
 rintro e w' ⟨rfl,rfl⟩
 exact⟨rfl,Go.RowKit.Below.refl _ _⟩
theorem p7_(w:World)(q:Nat)(os:Array Obj):RowKit.Below w.heap.size w (Go.Sort.grow (w.drewN q) os) :=
 ⟨rfl,rfl,rfl,by first|(simp[Go.Sort.grow];done)|(simp[Go.Sort.grow];omega),fun i hi=>by
  show((w.drewN q).heap++os)[i]?=_
  rw[Array.getElem?_append_left (by show i<w.heap.size;omega)]
  rfl⟩
theorem bK_(n:Int)(h0 : -9223372036854775808≤n)(h1:n≤9223372036854775807)(h:List Row) :
 PureCall prog 232 [.val (.int .i64 n),.val (.int .i64 10)] h (.val (.string (txt (Lib.itoa n)))):=by
 refine f4_ (vals:=[.int .i64 n,.int .i64 10]) (fun w ht=>?_) h
 have:=Any.strconv_FormatInt_10 Tryz.laysM173 n h0 h1 w (ht ("internal/strconv.uint64pow10",(Lib.pow10Tab.map fun z=>Value.int .u64 z).toArray) (by simp[pt_]) (by kernel_rfl))
 refine this.mono ?_
 rintro e w' ⟨rfl,k,os,rfl⟩
 exact⟨rfl,p7_ _ _ _⟩
theorem i5_(l p:List UInt8)(h:List Row) :
 PureCall prog 241 [.val (.string (txt l)),.val (.string (txt p))] h (.tup [.val (.string (txt (Lib.trimPrefix l p))),.val (.bool (Lib.hasPrefix l p))]):=by
 refine tD_ (vals:=[.string (txt l),.string (txt p)]) (us:=[.string (txt (Lib.trimPrefix l p)),.bool (Lib.hasPrefix l p)]) (fun w _=>?_) h
 have:=Any.strings_CutPrefix Tryz.lays103 (txt l) (txt p) w
 rw[bg_,bg_]at this
 refine this.mono ?_
 rintro e w' ⟨rfl,rfl⟩
 exact⟨rfl,Go.RowKit.Below.refl _ _⟩
theorem pR_(b:UInt8):([48,49,50,51,52,53,54,55,56,57]:List UInt8).contains b=bs_ b:=by
 have hb:=b.toNat_lt
 rw[Bool.eq_iff_iff]
 simp only[contains_eq_mem,mem_cons,not_mem_nil,or_false,decide_eq_true_eq,bs_,Bool.and_eq_true,←UInt8.toNat_inj]
 show(b.toNat=48∨b.toNat=49∨b.toNat=50∨b.toNat=51∨b.toNat=52∨b.toNat=53∨b.toNat=54∨b.toNat=55∨b.toNat=56∨b.toNat=57)↔_
 omega
theorem pd_(b:UInt8):([43,45]:List UInt8).contains b=c7_ b:=by
 rw[Bool.eq_iff_iff]
 simp[c7_]
theorem cU_{α:Type}{p q:α→Bool}(h:∀x,p x=q x)(l:List α):l.dropWhile p=l.dropWhile q:=by
 have:p=q:=funext h
 rw[this]
theorem fx_{α:Type}(p:α→Bool)(l:List α):(l.takeWhile p).length+(l.dropWhile p).length=l.length:=by
 rw[←List.length_append,takeWhile_append_dropWhile]
theorem gx_{α:Type}(p:α→Bool)(l:List α):l.take (l.takeWhile p).length=l.takeWhile p:=by
 have h:=takeWhile_append_dropWhile (p:=p) (l:=l)
 have h2:(l.takeWhile p++l.dropWhile p).take (l.takeWhile p).length=l.takeWhile p:=take_left' rfl
 rw[h]at h2;exact h2
theorem nm_{α:Type}(p:α→Bool)(l:List α):l.drop (l.takeWhile p).length=l.dropWhile p:=by
 have h:=takeWhile_append_dropWhile (p:=p) (l:=l)
 have h2:(l.takeWhile p++l.dropWhile p).drop (l.takeWhile p).length=l.dropWhile p:=drop_left' rfl
 rw[h]at h2;exact h2
def yA_:LC :=
 .q [.o [.ki 2 0],.o [.m 3 0,.s 4 (.lenStr (.tmp 3)),.m 5 0,.s 6 (.call 238 [.tmp 5,.const (.string ⟨#[48,49,50,51,52,53,54,55,56,57]⟩)]),.s 7 (.lenStr (.tmp 6)),.bb 8 .sub false 4 7,.m 2 8],.ret]
def wg_:LF:=⟨1,9,yA_,[.tmp 2]⟩
theorem y9_:aC_ prog Tryz.f240 wg_:=az_
theorem hM_(l:List UInt8)(hl:l.length≤2000000)(h:List Row):PureCall prog 240 [.val (.string (txt l))] h (.val (.int .i64 (l.takeWhile bs_).length)):=by
 refine av_ mixed Tryz.func240 y9_ rfl rfl ?_ h
 have hw:=fx_ bs_ l
 simp(disch:=omega)only[wg_,yA_,go_sem,seval]
 refine PureCall.call (gf_ l _ (by decide) (by decide) _) ?_
 rw[cU_ pR_]
 simp(disch:=omega)only[go_sem,seval]
 exact aM_ (by omega)
def ba_(x lo hi:Int):Bool:=decide (lo≤x)&&decide (x≤hi)
def c73:LC :=
 .q [.o [.f 6],.o [.m 7 1,.m 8 0,.bb 9 .leq false 7 8,.m 10 9,.gm 11 10 true 0,.gm 12 10 true 2,.g 13 10 true (.bin .leq false (.tmp 11) (.tmp 12)),.pf 14 10 13,.m 6 14],.ret]
def Ad_:LF:=⟨3,15,c73,[.tmp 6]⟩
theorem Az_:aC_ prog Tryz.f73 Ad_:=az_
theorem cS_(x lo hi:Int)  (h:List Row):PureCall prog 73 [.val (.int .i64 x),.val (.int .i64 lo),.val (.int .i64 hi)] h (.val (.bool (ba_ x lo hi))):=by
 refine av_ mixed Tryz.func73 Az_ rfl rfl ?_ h
 simp(disch:=omega)only[Ad_,c73,go_sem,seval]
 repeat' (first
  | exact am_ _ _
  | (refine af_ ?_;first|rfl|(simp only[ba_, *,Bool.true_and,Bool.false_and,decide_true,decide_false];done)|(simp[ba_, *];done))
  | simp(disch:=omega)only[go_sem,seval]
  | ((first|(apply bz_;assumption)|(apply by_;assumption)|(apply bS_;assumption)|(apply bT_;assumption));intro hb;try simp only[hb])
  | ((first|(apply aT_;assumption)|(apply aR_;assumption)|(apply a6_;assumption)|(apply a7_;assumption));intro hb;try simp only[hb])
  | ((first|apply aQ_|apply aZ_|apply at_|apply as_)<;>intro hb<;>(try simp only[hb])<;>(first|have hp:=br_ hb|have hp:=bn_ hb|have hp:=bq_ hb|have hp:=bp_ hb|skip)))
def c57:LC :=
 .q [.o [.f 6],.o [.m 7 0,.m 8 1,.bb 9 .geq false 7 8,.m 10 9,.gm 11 10 true 0,.gm 12 10 true 2,.g 13 10 true (.bin .leq false (.tmp 11) (.tmp 12)),.pf 14 10 13,.m 6 14],.ret]
def yy_:LF:=⟨3,15,c57,[.tmp 6]⟩
theorem AC_:aC_ prog Tryz.f57 yy_:=az_
theorem cK_(x lo hi:Int)  (h:List Row):PureCall prog 57 [.val (.int .i64 x),.val (.int .i64 lo),.val (.int .i64 hi)] h (.val (.bool (ba_ x lo hi))):=by
 refine av_ mixed Tryz.func57 AC_ rfl rfl ?_ h
 simp(disch:=omega)only[yy_,c57,go_sem,seval]
 repeat' (first
  | exact am_ _ _
  | (refine af_ ?_;first|rfl|(simp only[ba_, *,Bool.true_and,Bool.false_and,decide_true,decide_false];done)|(simp[ba_, *];done))
  | simp(disch:=omega)only[go_sem,seval]
  | ((first|(apply bz_;assumption)|(apply by_;assumption)|(apply bS_;assumption)|(apply bT_;assumption));intro hb;try simp only[hb])
  | ((first|(apply aT_;assumption)|(apply aR_;assumption)|(apply a6_;assumption)|(apply a7_;assumption));intro hb;try simp only[hb])
  | ((first|apply aQ_|apply aZ_|apply at_|apply as_)<;>intro hb<;>(try simp only[hb])<;>(first|have hp:=br_ hb|have hp:=bn_ hb|have hp:=bq_ hb|have hp:=bp_ hb|skip)))
def zc_:LC :=
 .q [.o [.f 2],.o [.m 3 0,.s 4 (.call 73 [.tmp 3,.const (.int .i64 (-999999999999999999)),.const (.int .i64 999999999999999999)]),.m 2 4],.ret]
def wx_:LF:=⟨1,5,zc_,[.tmp 2]⟩
theorem yh_:aC_ prog Tryz.f231 wx_:=az_
theorem ov_(x:Int)  (h:List Row):PureCall prog 231 [.val (.int .i64 x)] h (.val (.bool (ba_ x (-999999999999999999) 999999999999999999))):=by
 refine av_ mixed Tryz.func231 yh_ rfl rfl ?_ h
 simp(disch:=omega)only[wx_,zc_,go_sem,seval]
 repeat' (first
  | exact am_ _ _
  | simp(disch:=omega)only[go_sem,seval]
  | (refine PureCall.call (cS_ _ _ _ _) ?_)
  | (refine PureCall.q (cS_ _ _ _ _) ?_)
  | ((first|(apply bz_;assumption)|(apply by_;assumption)|(apply bS_;assumption)|(apply bT_;assumption));intro hb;try simp only[hb])
  | ((first|(apply aT_;assumption)|(apply aR_;assumption)|(apply a6_;assumption)|(apply a7_;assumption));intro hb;try simp only[hb])
  | ((first|apply aQ_|apply aZ_|apply at_|apply as_)<;>intro hb<;>(try simp only[hb])<;>(first|have hp:=br_ hb|have hp:=bn_ hb|have hp:=bq_ hb|have hp:=bp_ hb|skip)))
def vG_:LC :=
 .q [.o [.f 2],.o [.m 3 0,.s 4 (.bin .geq false (.tmp 3) (.const (.int .u8 48))),.m 5 4,.gm 6 5 true 0,.g 7 5 true (.bin .leq false (.tmp 6) (.const (.int .u8 57))),.pf 8 5 7,.m 2 8],.ret]
def sh_:LF:=⟨1,9,vG_,[.tmp 2]⟩
theorem sP_:aC_ prog Tryz.f191 sh_:=az_
theorem hE_(b:UInt8)  (h:List Row):PureCall prog 191 [.val (.int .u8 b.toNat)] h (.val (.bool (bs_ b))):=by
 refine av_ mixed Tryz.func191 sP_ rfl rfl ?_ h
 simp(disch:=omega)only[sh_,vG_,go_sem,seval]
 repeat' (first
  | exact am_ _ _
  | (refine af_ ?_;rw[Bool.eq_iff_iff];simp_all[bs_];omega)
  | simp(disch:=omega)only[go_sem,seval]
  | ((first|(apply bz_;assumption)|(apply by_;assumption)|(apply bS_;assumption)|(apply bT_;assumption));intro hb;try simp only[hb])
  | ((first|(apply aT_;assumption)|(apply aR_;assumption)|(apply a6_;assumption)|(apply a7_;assumption));intro hb;try simp only[hb])
  | ((first|apply aQ_|apply aZ_|apply at_|apply as_)<;>intro hb<;>(try simp only[hb])<;>(first|have hp:=br_ hb|have hp:=bn_ hb|have hp:=bq_ hb|have hp:=bp_ hb|skip)))
def yn_:LC :=
 .q [.o [.ki 4 0],.q [.o [.m 5 0,.m 6 1,.bb 7 .lss false 5 6],.k 7 (.q [.o [.m 8 0,.m 4 8],.ret]) .skip],.o [.m 9 1,.m 4 9],.ret]
def v4_:LF:=⟨2,10,yn_,[.tmp 4]⟩
theorem z7_:aC_ prog Tryz.f223 v4_:=az_
theorem d6_(a b:Int)  (h:List Row):PureCall prog 223 [.val (.int .i64 a),.val (.int .i64 b)] h (.val (.int .i64 (min a b))):=by
 refine av_ mixed Tryz.func223 z7_ rfl rfl ?_ h
 simp(disch:=omega)only[v4_,yn_,go_sem,seval]
 repeat' (first
  | exact am_ _ _
  | (refine aM_ ?_;have:=of_decide_eq_true ‹_›;omega)
  | (refine aM_ ?_;have:=of_decide_eq_false ‹_›;omega)
  | simp(disch:=omega)only[go_sem,seval]
  | ((first|(apply aT_;assumption)|(apply aR_;assumption)|(apply a6_;assumption)|(apply a7_;assumption));intro hb;try simp only[hb])
  | ((first|apply at_|apply as_)<;>intro hb<;>(try simp only[hb])<;>(first|have hp:=br_ hb|have hp:=bn_ hb|have hp:=bq_ hb|have hp:=bp_ hb|skip)))
theorem kn_{b:UInt8}(h:bs_ b=true):48≤b.toNat∧b.toNat≤57:=by simpa[bs_]using h
def yU_:LC :=
 .q [.o [.ki 4 0],.q [.o [.m 7 1,.s 8 (.toBytes 5 (.tmp 7)),.ll 9 8,.ki 10 0],.block 0 (.loop (.q [.o [.bb 11 .lss false 10 9],.k 11 .skip (.exit 0),.block 1 (.q [.o [.ia 12 1 8 10,.ln 13 12,.m 6 13],.q [.o [.m
 14 0,.m 15 6,.s 16 (.bin .sub false (.tmp 15) (.const (.int .u8 48))),.s 17 (.convInt .i64 (.tmp 16)),.s 18 (.bin .sub false (.const (.int .i64 999999999999999999)) (.tmp 17)),.bk 19 .quo false 18 10,.bb 20 .gtr
 false 14 19],.k 20 (.q [.o [.ki 4 999999999999999999],.ret]) .skip],.o [.m 21 0,.s 22 (.bin .mul false (.const (.int .i64 10)) (.tmp 21)),.m 23 6,.s 24 (.bin .sub false (.tmp 23) (.const (.int .u8 48))),.s 25
 (.convInt .i64 (.tmp 24)),.bb 26 .add false 22 25,.m 0 26]]),.o [.bk 27 .add false 10 1,.m 10 27]]))],.o [.m 28 0,.m 4 28],.ret]
def wv_:LF:=⟨2,29,yU_,[.tmp 4]⟩
theorem xR_:aC_ prog Tryz.f242 wv_:=az_
theorem nb_(n0:Nat)(l:List UInt8)(hl:l.length≤2000000)(hn:n0≤999999999999999999)(hd:∀b∈l,48≤b.toNat∧b.toNat≤57)(h:List Row):PureCall prog 242 [.val (.int .i64 n0),.val (.string (txt l))] h (.val (.int .i64 (fk_ n0 l))):=by
 refine av_ mixed Tryz.func242 xR_ rfl rfl ?_ h
 simp(disch:=omega)only[wv_,yU_,go_sem,seval]
 refine ToB.list ?_
 simp(disch:=omega)only[bg_,go_sem,↓reduceIte]
 refine a4_ (fun m t h=>∃k n:Nat,t 0=.val (.int .i64 n)∧t 8=.list 0 1 (aY_ l)∧t 9=.val (.int .i64 l.length)∧t 10=.val (.int .i64 k)∧m=l.length-k∧k≤l.length∧n≤999999999999999999∧fk_ n0 l=fk_ n (l.drop k)) l.length ?_ ?_
 ·exact⟨0,n0,rfl,rfl,rfl,rfl,rfl,Nat.zero_le _,hn,rfl⟩
 ·rintro J hJ m t h ⟨k,n,t0,t8,t9,t10,rfl,hk,hn',hS⟩
  by_cases hlt:k<l.length
  ·rw[dr_ l k hlt,fk_]at hS
   have hr:=hd l[k] (getElem_mem hlt)
   simp(disch:=omega)only[t0,t8,t9,t10,hlt,go_sem,seval]
   refine as_ (fun hb=>?_) (fun hb=>?_)
   ·have hb':=of_decide_eq_true hb
    rw[if_pos (by unfold dgt;omega)]at hS
    simp(disch:=omega)only[go_sem,↓reduceIte]
    exact aM_ (by rw[hS];rfl)
   ·have hb':=of_decide_eq_false hb
    rw[if_neg (by unfold dgt;omega)]at hS
    simp(disch:=omega)only[t0,t10,go_sem,seval]
    exact⟨l.length-(k+1),by omega,hJ _ _ _ ⟨k+1,10 * n+dgt l[k],by simp[upd,dgt];omega,by simp[upd,t8],by simp[upd,t9],by simp[upd],rfl,by omega,by unfold dgt;omega,hS⟩⟩
  ·rw[drop_eq_nil_of_le (by omega),fk_]at hS
   simp(disch:=omega)only[t0,t9,t10,hlt,go_sem,seval]
   exact aM_ (by rw[hS])
theorem wm_(d:List UInt8):(∃t,d=46::t∧Lib.hasPrefix d [46]=true∧Lib.trimPrefix d [46]=t)∨(Lib.hasPrefix d [46]=false∧∀t,d≠46::t):=by
 cases d with
 | nil=>right;simp[Lib.hasPrefix]
 | cons b t =>
  by_cases h:b=46
  ·left;subst h;exact⟨t,rfl,by simp[Lib.hasPrefix,List.isPrefixOf],by simp[Lib.trimPrefix,Lib.hasPrefix,List.isPrefixOf]⟩
  ·right
   have h':¬ (46=b):=fun e=>h e.symm
   refine⟨by simp[Lib.hasPrefix,List.isPrefixOf,h'],fun t' e=>?_⟩
   simp at e;exact h e.1
theorem hh_{r:List UInt8}(h:∀t,r.dropWhile bs_≠46::t):cx_ r=[]:=by
 unfold cx_
 split
 ·rename_i t e;exact absurd e (h t)
 ·rfl
theorem jf_{r t:List UInt8}(h:r.dropWhile bs_=46::t):cx_ r=t.takeWhile bs_:=by
 unfold cx_;rw[h];rfl
theorem g1_(l:List UInt8):∀b∈l.takeWhile bs_,48≤b.toNat∧b.toNat≤57:=by
 intro b hb
 have:=all_takeWhile (p:=bs_) (l:=l)
 exact kn_ (all_eq_true.1 this b hb)
theorem qt_{f:List UInt8}(h:∀b∈f,48≤b.toNat∧b.toNat≤57):∀b∈six f,48≤b.toNat∧b.toNat≤57:=by
 intro b hb
 have hb:=mem_of_mem_take hb
 rcases mem_append.1 hb with q|q
 ·exact h b q
 ·have:=eq_of_mem_replicate q;subst this;decide
def y8_:LC :=
 .q [.o [.ki 2 0],.o [.m 10 0,.s 11 (.call 238 [.tmp 10,.const (.string ⟨#[43,45]⟩)]),.m 3 11],.o [.m 12 0,.m 13 0,.s 14 (.lenStr (.tmp 13)),.m 15 3,.s 16 (.lenStr (.tmp 15)),.bb 17 .sub false 14 16,.s 18
 (.sliceStr (.tmp 12) none (some (.tmp 17))),.s 19 (.call 239 [.tmp 18,.const (.string ⟨#[45]⟩)]),.bk 20 .rem false 19 2,.bk 21 .eql false 20 1,.m 4 21],.o [.m 22 3,.m 23 3,.c1 24 240 23,.s 25 (.sliceStr (.tmp
 22) none (some (.tmp 24))),.m 5 25],.o [.s 6 (.mov (.const (.string ⟨#[]⟩)))],.q [.o [.m 27 3,.m 28 5,.s 29 (.lenStr (.tmp 28)),.s 30 (.sliceStr (.tmp 27) (some (.tmp 29)) none),.s 31 (.call 241 [.tmp 30,.const
 (.string ⟨#[46]⟩)]),.m 26 31,.ex 32 26 0,.ex 33 26 1,.m 7 32,.m 8 33],.o [.m 34 8],.k 34 (.o [.m 35 7,.m 36 7,.c1 37 240 36,.s 38 (.sliceStr (.tmp 35) none (some (.tmp 37))),.m 6 38]) .skip],.o [.m 39 5,.m
 40 6,.s 41 (.bin .add false (.tmp 40) (.const (.string ⟨#[48,48,48,48,48,48]⟩))),.s 42 (.sliceStr (.tmp 41) none (some (.const (.int .i64 6)))),.bb 43 .add false 39 42,.s 44 (.call 242 [.const (.int .i64 0),
 .tmp 43]),.m 9 44],.q [.o [.m 45 4],.k 45 (.q [.o [.m 46 9,.s 47 (.un .neg (.tmp 46)),.m 2 47],.ret]) .skip],.o [.m 48 9,.m 2 48],.ret]
def wD_:LF:=⟨1,49,y8_,[.tmp 2]⟩
theorem z4_:aC_ prog Tryz.f216 wD_:=az_
theorem jK_(l:List UInt8)(hl:l.length≤1900000)(h:List Row):PureCall prog 216 [.val (.string (txt l))] h (.val (.int .i64 (b3_ l))):=by
 refine av_ mixed Tryz.func216 z4_ rfl rfl ?_ h
 have hw:=fx_ c7_ l
 have hw2:=fx_ bs_ (l.dropWhile c7_)
 have e1:((l.length:Int)-((l.dropWhile c7_).length:Int))=((l.takeWhile c7_).length:Int):=by omega
 have hsg:decide (((l.takeWhile c7_).count 45:Int) % 2=1)=dH_ l:=by
  unfold dH_;rw[Bool.eq_iff_iff];simp;omega
 simp(disch:=omega)only[wD_,y8_,go_sem,seval]
 refine PureCall.call (gf_ l _ (by decide) (by decide) _) ?_
 rw[cU_ pd_]
 simp(disch:=omega)only[e1,gx_,go_sem,seval]
 refine PureCall.call (lp_ _ 45 _) ?_
 simp(disch:=omega)only[hsg,go_sem,seval]
 have hr:(l.dropWhile c7_)=bf_ l:=rfl
 rw[hr]at hw2 hw⊢
 refine PureCall.call (hM_ _ (by omega) _) ?_
 simp(disch:=omega)only[gx_,nm_,take_length,go_sem,seval]
 refine PureCall.call (i5_ _ _ _) ?_
 have hz:=i9_ (cx_ (bf_ l))
 have hq:fk_ 0 ((bf_ l).takeWhile bs_++six (cx_ (bf_ l)))=fq_ l:=u5_ l
 have hfin:∀h,PureCall prog 242 [.val (.int .i64 0),.val (.string (txt ((bf_ l).takeWhile bs_++six (cx_ (bf_ l)))))] h (.val (.int .i64 (fq_ l))):=by
  intro h
  rw[←hq]
  refine nb_ 0 _ (by simp only[la_];omega) (by decide) ?_ h
  intro b hb
  rcases mem_append.1 hb with q|q
  ·exact g1_ _ b q
  ·exact qt_ (fun b hb=>by
    rcases wm_ ((bf_ l).dropWhile bs_)with ⟨t,e,_⟩|⟨_,e⟩
    ·rw[jf_ e]at hb;exact g1_ _ b hb
    ·rw[hh_ e]at hb;simp at hb) b q
 have hle:=kp_ l
 rcases wm_ ((bf_ l).dropWhile bs_)with ⟨t,e,e2,e3⟩|⟨e2,e⟩
 ·have hfr:=jf_ e
  have hlt:t.length+1≤(bf_ l).length:=by rw[e]at hw2;simp at hw2;omega
  have hlt2:=fx_ bs_ t
  simp(disch:=(try simp only[la_,lc_,ln_]);omega)only[e2,e3,go_sem,seval]
  refine PureCall.call (hM_ t (by omega) _) ?_
  have hsix:(t.takeWhile bs_++[48,48,48,48,48,48]).take 6=six (cx_ (bf_ l)):=by rw[hfr];rfl
  simp(disch:=(try simp only[la_,lc_,ln_]);omega)only[gx_,hsix,go_sem,seval]
  refine PureCall.call (hfin _) ?_
  simp(disch:=(try simp only[la_,lc_,ln_]);omega)only[go_sem,seval]
  refine as_ (fun hb=>?_) (fun hb=>?_)
  ·simp(disch:=(try simp only[la_,lc_,ln_]);omega)only[go_sem,seval]
   exact aM_ (by unfold b3_;rw[if_pos hb];omega)
  ·simp(disch:=(try simp only[la_,lc_,ln_]);omega)only[go_sem,seval]
   exact aM_ (by unfold b3_;rw[if_neg (by rw[hb];decide)])
 ·have hfr:=hh_ e
  have hsix2:([48,48,48,48,48,48]:List UInt8)=six (cx_ (bf_ l)):=by rw[hfr];rfl
  rw[←hsix2]at hfin
  simp(disch:=(try simp only[la_,lc_,ln_]);omega)only[e2,go_sem,seval]
  refine PureCall.call (hfin _) ?_
  simp(disch:=(try simp only[la_,lc_,ln_]);omega)only[go_sem,seval]
  refine as_ (fun hb=>?_) (fun hb=>?_)
  ·simp(disch:=(try simp only[la_,lc_,ln_]);omega)only[go_sem,seval]
   exact aM_ (by unfold b3_;rw[if_pos hb];omega)
  ·simp(disch:=(try simp only[la_,lc_,ln_]);omega)only[go_sem,seval]
   exact aM_ (by unfold b3_;rw[if_neg (by rw[hb];decide)])
def iN_(n:Int):Bool:=ba_ n (-999999999999999999) 999999999999999999
def eW_(n:Int):List UInt8:=if iN_ n then a3_ n else []
theorem hm_(n:Int):iN_ n=true ↔ -999999999999999999≤n∧n≤999999999999999999:=by simp[iN_,ba_]
theorem eZ_(u:Nat):Lib.itoa (u:Int)=Lib.decDigits u:=by
 unfold Lib.itoa
 rw[if_neg (by omega)];simp
theorem gB_(b:UInt8):([48]:List UInt8).contains b=(b==48):=by
 rw[Bool.eq_iff_iff];simp
theorem cI_(u:Nat)(h:u≠0):cV_ u=(if 1000000≤u then Lib.decDigits (u / 1000000)else [])++(if 0<u % 1000000 then 46::e5_ ((Lib.decDigits (1000000+u % 1000000)).drop 1)else []):=by
 unfold cV_
 rw[if_neg h]
 congr 1
 ·unfold cE_
  by_cases q:1000000≤u
  ·rw[if_neg (by omega),if_pos q]
  ·rw[if_pos (by omega),if_neg q]
 ·unfold jn_
  by_cases q:0<u % 1000000
  ·rw[if_neg (by omega),if_pos q]
  ·rw[if_pos (by omega),if_neg q]
theorem ft_(u:Nat)(h:u≤999999999999999999):(Lib.decDigits u).length≤20∧1≤(Lib.decDigits u).length:=by
 rw[Lib.decDigits_eq]
 simp only[length_map,length_range]
 have:=i3_ 18 u (by omega)
 constructor
 ·omega
 ·unfold Lib.nDigits;split<;>omega
def zl_:LC :=
 .q [.o [.s 2 (.mov (.const (.string ⟨#[]⟩)))],.q [.o [.m 5 0,.c1 6 231 5,.nt 7 6],.k 7 (.q [.o [.s 2 (.mov (.const (.string ⟨#[]⟩)))],.ret]) .skip],.q [.o [.m 8 0,.bk 9 .eql false 8 0],.k 9 (.q [.o [.s 2 (.mov
 (.const (.string ⟨#[48]⟩)))],.ret]) .skip],.o [.s 3 (.mov (.const (.string ⟨#[]⟩)))],.q [.o [.m 10 0,.bk 11 .lss false 10 0],.k 11 (.o [.m 12 0,.s 13 (.un .neg (.tmp 12)),.s 3 (.mov (.const (.string ⟨#[45]⟩))),.m
 0 13]) .skip],.q [.o [.m 14 0,.bk 15 .geq false 14 1000000],.k 15 (.o [.m 16 3,.m 17 0,.bk 18 .quo false 17 1000000,.s 19 (.call 232 [.tmp 18,.const (.int .i64 10)]),.bb 20 .add false 16 19,.m 3 20]) .skip],.q
 [.o [.m 21 0,.bk 22 .rem false 21 1000000,.m 4 22],.o [.m 23 4,.bk 24 .gtr false 23 0],.k 24 (.o [.m 25 3,.m 26 4,.s 27 (.bin .add false (.const (.int .i64 1000000)) (.tmp 26)),.s 28 (.call 232 [.tmp 27,.const
 (.int .i64 10)]),.s 29 (.sliceStr (.tmp 28) (some (.const (.int .i64 1))) none),.s 30 (.call 233 [.tmp 29,.const (.string ⟨#[48]⟩)]),.s 31 (.bin .add false (.const (.string ⟨#[46]⟩)) (.tmp 30)),.bb 32 .add false 25
 31,.m 3 32]) .skip],.o [.m 33 3,.m 2 33],.ret]
def wz_:LF:=⟨1,34,zl_,[.tmp 2]⟩
theorem Ac_:aC_ prog Tryz.f204 wz_:=az_
theorem hY_(n:Int)(h:List Row):PureCall prog 204 [.val (.int .i64 n)] h (.val (.string (txt (eW_ n)))):=by
 refine av_ mixed Tryz.func204 Ac_ rfl rfl ?_ h
 simp(disch:=(try simp only[la_,lc_,ln_]);omega)only[wz_,zl_,go_sem,seval]
 refine PureCall.call (ov_ n _) ?_
 by_cases hn:iN_ n=true
 ·have hn':=(hm_ n).1 hn
  have hn2:ba_ n (-999999999999999999) 999999999999999999=true:=hn
  have hres:eW_ n=a3_ n:=by unfold eW_;rw[if_pos hn]
  by_cases h0:n=0
  ·subst h0
   simp(disch:=(try simp only[la_,lc_,ln_]);omega)only[hn2,go_sem,seval]
   exact bl_ (by rw[hres];congr 1)
  ·obtain⟨u,hu⟩:∃u:Nat,u=n.natAbs:=⟨_,rfl⟩
   have hu0:u≠0:=by omega
   have e2:((u:Int) / 1000000)=((u / 1000000:Nat):Int):=by omega
   have e3:((u:Int) % 1000000)=((u % 1000000:Nat):Int):=by omega
   have e4:((1000000:Int)+((u % 1000000:Nat):Int))=((1000000+u % 1000000:Nat):Int):=by omega
   have hd1:=ft_ (u / 1000000) (by omega)
   have hd2:=ft_ (1000000+u % 1000000) (by omega)
   by_cases hneg:n<0
   ·have e1:(0-n)=(u:Int):=by omega
    have hs:(n<0)=True:=eq_true hneg
    have hnt:a3_ n=[45]++cV_ u:=by unfold a3_;rw[if_pos hneg,←hu];rfl
    by_cases q1:1000000≤u
    ·have hq1:((1000000:Int)≤u)=True:=by first|(simp;done)|(simp;omega)
     by_cases q2:0<u % 1000000
     ·have hq2:((0:Int)<((u % 1000000:Nat):Int))=True:=by first|(simp;done)|(simp;omega)
      simp(disch:=(try simp only[la_,lc_,ln_]);omega)only[hn2,h0,hs,e2,hq1,e1,go_sem,seval]
      refine PureCall.call (bK_ _ (by omega) (by omega) _) ?_
      rw[eZ_]
      simp(disch:=(try simp only[la_,lc_,ln_]);omega)only[e3,hq2,go_sem,seval]
      refine PureCall.call (bK_ _ (by omega) (by omega) _) ?_
      rw[e4,eZ_]
      simp(disch:=(try simp only[la_,lc_,ln_]);omega)only[take_length,go_sem,seval]
      refine PureCall.call (dg_ _ _ (by simp only[length_drop];omega) (by decide) (by decide) _) ?_
      rw[cU_ gB_,←e5_]
      have htl:=eS_ ((Lib.decDigits (1000000+u % 1000000)).drop 1)
      rw[length_drop]at htl
      simp(disch:=(try simp only[la_,lc_,ln_]);omega)only[go_sem,seval]
      exact bl_ (by rw[hres,hnt,cI_ u hu0,if_pos q1,if_pos q2];simp)
     ·have hq2:((0:Int)<((u % 1000000:Nat):Int))=False:=by first|(simp;done)|(simp;omega)
      simp(disch:=(try simp only[la_,lc_,ln_]);omega)only[hn2,h0,hs,e2,hq1,e1,go_sem,seval]
      refine PureCall.call (bK_ _ (by omega) (by omega) _) ?_
      rw[eZ_]
      simp(disch:=(try simp only[la_,lc_,ln_]);omega)only[e3,hq2,go_sem,seval]
      exact bl_ (by rw[hres,hnt,cI_ u hu0,if_pos q1,if_neg q2];simp)
    ·have hq1:((1000000:Int)≤u)=False:=by first|(simp;done)|(simp;omega)
     by_cases q2:0<u % 1000000
     ·have hq2:((0:Int)<((u % 1000000:Nat):Int))=True:=by first|(simp;done)|(simp;omega)
      simp(disch:=(try simp only[la_,lc_,ln_]);omega)only[hn2,h0,hs,e3,hq1,hq2,e1,go_sem,seval]
      refine PureCall.call (bK_ _ (by omega) (by omega) _) ?_
      rw[e4,eZ_]
      simp(disch:=(try simp only[la_,lc_,ln_]);omega)only[take_length,go_sem,seval]
      refine PureCall.call (dg_ _ _ (by simp only[length_drop];omega) (by decide) (by decide) _) ?_
      rw[cU_ gB_,←e5_]
      have htl:=eS_ ((Lib.decDigits (1000000+u % 1000000)).drop 1)
      rw[length_drop]at htl
      simp(disch:=(try simp only[la_,lc_,ln_]);omega)only[go_sem,seval]
      exact bl_ (by rw[hres,hnt,cI_ u hu0,if_neg q1,if_pos q2];simp)
     ·have hq2:((0:Int)<((u % 1000000:Nat):Int))=False:=by first|(simp;done)|(simp;omega)
      simp(disch:=(try simp only[la_,lc_,ln_]);omega)only[hn2,h0,hs,e3,hq1,hq2,e1,go_sem,seval]
      exact bl_ (by rw[hres,hnt,cI_ u hu0,if_neg q1,if_neg q2];simp)
   ·have e1:n=(u:Int):=by omega
    have hs:((u:Int)<0)=False:=by first|(simp;done)|(simp;omega)
    have hnt:a3_ n=[]++cV_ u:=by unfold a3_;rw[if_neg hneg,←hu];rfl
    clear hu
    subst e1
    by_cases q1:1000000≤u
    ·have hq1:((1000000:Int)≤u)=True:=by first|(simp;done)|(simp;omega)
     by_cases q2:0<u % 1000000
     ·have hq2:((0:Int)<((u % 1000000:Nat):Int))=True:=by first|(simp;done)|(simp;omega)
      simp(disch:=(try simp only[la_,lc_,ln_]);omega)only[hn2,h0,hs,e2,hq1,go_sem,seval]
      refine PureCall.call (bK_ _ (by omega) (by omega) _) ?_
      rw[eZ_]
      simp(disch:=(try simp only[la_,lc_,ln_]);omega)only[e3,hq2,go_sem,seval]
      refine PureCall.call (bK_ _ (by omega) (by omega) _) ?_
      rw[e4,eZ_]
      simp(disch:=(try simp only[la_,lc_,ln_]);omega)only[take_length,go_sem,seval]
      refine PureCall.call (dg_ _ _ (by simp only[length_drop];omega) (by decide) (by decide) _) ?_
      rw[cU_ gB_,←e5_]
      have htl:=eS_ ((Lib.decDigits (1000000+u % 1000000)).drop 1)
      rw[length_drop]at htl
      simp(disch:=(try simp only[la_,lc_,ln_]);omega)only[go_sem,seval]
      exact bl_ (by rw[hres,hnt,cI_ u hu0,if_pos q1,if_pos q2];simp)
     ·have hq2:((0:Int)<((u % 1000000:Nat):Int))=False:=by first|(simp;done)|(simp;omega)
      simp(disch:=(try simp only[la_,lc_,ln_]);omega)only[hn2,h0,hs,e2,hq1,go_sem,seval]
      refine PureCall.call (bK_ _ (by omega) (by omega) _) ?_
      rw[eZ_]
      simp(disch:=(try simp only[la_,lc_,ln_]);omega)only[e3,hq2,go_sem,seval]
      exact bl_ (by rw[hres,hnt,cI_ u hu0,if_pos q1,if_neg q2];simp)
    ·have hq1:((1000000:Int)≤u)=False:=by first|(simp;done)|(simp;omega)
     by_cases q2:0<u % 1000000
     ·have hq2:((0:Int)<((u % 1000000:Nat):Int))=True:=by first|(simp;done)|(simp;omega)
      simp(disch:=(try simp only[la_,lc_,ln_]);omega)only[hn2,h0,hs,e3,hq1,hq2,go_sem,seval]
      refine PureCall.call (bK_ _ (by omega) (by omega) _) ?_
      rw[e4,eZ_]
      simp(disch:=(try simp only[la_,lc_,ln_]);omega)only[take_length,go_sem,seval]
      refine PureCall.call (dg_ _ _ (by simp only[length_drop];omega) (by decide) (by decide) _) ?_
      rw[cU_ gB_,←e5_]
      have htl:=eS_ ((Lib.decDigits (1000000+u % 1000000)).drop 1)
      rw[length_drop]at htl
      simp(disch:=(try simp only[la_,lc_,ln_]);omega)only[go_sem,seval]
      exact bl_ (by rw[hres,hnt,cI_ u hu0,if_neg q1,if_pos q2];simp)
     ·have hq2:((0:Int)<((u % 1000000:Nat):Int))=False:=by first|(simp;done)|(simp;omega)
      simp(disch:=(try simp only[la_,lc_,ln_]);omega)only[hn2,h0,hs,e3,hq1,hq2,go_sem,seval]
      exact bl_ (by rw[hres,hnt,cI_ u hu0,if_neg q1,if_neg q2];simp)
 ·have hn2:ba_ n (-999999999999999999) 999999999999999999=false:=by simpa[iN_]using hn
  simp(disch:=(try simp only[la_,lc_,ln_]);omega)only[hn2,go_sem,seval]
  exact bl_ (by unfold eW_;rw[if_neg hn])
def x7_:LC :=
 .q [.o [.f 2],.o [.m 3 0,.c1 4 216 3,.c1 5 204 4,.m 6 0,.bb 7 .eql false 5 6,.m 2 7],.ret]
def vM_:LF:=⟨1,8,x7_,[.tmp 2]⟩
theorem zY_:aC_ prog Tryz.f215 vM_:=az_
theorem sL_(l:List UInt8):eW_ (b3_ l)=a3_ (b3_ l):=by
 unfold eW_;rw[if_pos ((hm_ _).2 (er_ l))]
theorem mw_(l:List UInt8)(hl:l.length≤1900000)(h:List Row):PureCall prog 215 [.val (.string (txt l))] h (.val (.bool (dI_ l))):=by
 refine av_ mixed Tryz.func215 zY_ rfl rfl ?_ h
 simp(disch:=(try simp only[la_,lc_,ln_]);omega)only[vM_,x7_,go_sem,seval]
 refine PureCall.call (jK_ l hl _) ?_
 simp(disch:=(try simp only[la_,lc_,ln_]);omega)only[go_sem,↓reduceIte]
 refine PureCall.call (hY_ _ _) ?_
 simp(disch:=(try simp only[la_,lc_,ln_]);omega)only[sL_,go_sem,seval]
 exact af_ rfl
def vf_:LC :=
 .q [.o [.s 2 (.mov (.const (.string ⟨#[]⟩)))],.q [.o [.m 3 0,.bk 4 .eql false 3 0],.k 4 (.q [.o [.s 2 (.mov (.const (.string ⟨#[]⟩)))],.ret]) .skip],.dops [.m 5 0,.bk 6 .quo false 5 10,.c1 7 101 6,.m 8 0,.bk 9
 .rem false 8 10,.s 10 (.bin .add false (.const (.int .i64 48)) (.tmp 9)),.s 11 (.convInt .u8 (.tmp 10)),.s 12 (.buildImm 5 1 (.int .u8 0) 1 [(0,.tmp 11)]),.s 13 (.toStr (.tmp 12)),.bb 14 .add false 7 13,.m 2 14],
 .ret]
def rO_:LF:=⟨1,15,vf_,[.tmp 2]⟩
theorem zT_:aC_ prog Tryz.f101 rO_:=az_
theorem qx_(u:Nat)(h:u≠0):cE_ u=cE_ (u / 10)++[UInt8.ofNat (48+u % 10)]:=by
 unfold cE_
 rw[if_neg h,Lib.decDigits]
 by_cases q:u<10
 ·rw[dif_pos q,if_pos (by omega)]
  have:u % 10=u:=by omega
  rw[this];rfl
 ·rw[dif_neg q,if_neg (by omega)]
theorem md_(u:Nat)(h:u≤999999999999999999):(cE_ u).length≤20:=by
 unfold cE_;split
 ·simp
 ·exact(ft_ u h).1
theorem hH_(u:Nat):u≤999999999999999999→∀h:List Row,PureCall prog 101 [.val (.int .i64 u)] h (.val (.string (txt (cE_ u)))):=by
 induction u using Nat.strongRecOn with
 | _ u ih =>
 intro hu h
 refine av_ mixed Tryz.func101 zT_ rfl rfl ?_ h
 by_cases h0:u=0
 ·subst h0
  simp(disch:=(try simp only[la_,lc_,ln_]);omega)only[rO_,vf_,go_sem,seval]
  exact bl_ rfl
 ·have h0':((u:Int)=0)=False:=by first|(simp;done)|(simp;omega)
  have e2:((u:Int) / 10)=((u / 10:Nat):Int):=by omega
  have hl:=md_ (u / 10) (by omega)
  have e5:UInt8.ofNat (48+(u:Int) % 10).toNat=UInt8.ofNat (48+u % 10):=by first|(congr 1;done)|(congr 1;omega)
  simp(disch:=(try simp only[la_,lc_,ln_]);omega)only[rO_,vf_,h0',e2,go_sem,seval]
  refine PureCall.q (ih (u / 10) (by omega) (by omega) _) ?_
  simp(disch:=(try simp only[la_,lc_,ln_]);omega)only[e5,go_sem]
  exact bl_ (by rw[qx_ u h0])
def c55:LC :=
 .q [.o [.s 2 (.mov (.const (.string ⟨#[]⟩)))],.q [.o [.m 6 0,.bk 7 .lss false 6 0],.k 7 (.q [.o [.m 8 0,.s 9 (.un .neg (.tmp 8)),.c1 10 55 9,.s 11 (.bin .add false (.const (.string ⟨#[45]⟩)) (.tmp 10)),.m 2 11],
 .ret]) .skip],.o [.m 12 0,.bk 13 .quo false 12 1000000,.c1 14 101 13,.m 3 14],.o [.m 15 0,.bk 16 .rem false 15 1000000,.m 4 16],.q [.o [.m 17 4,.bk 18 .gtr false 17 0],.k 18 (.q [.o [.m 19 4,.s 20 (.bin .add
 false (.const (.int .i64 1000000)) (.tmp 19)),.c1 21 101 20,.s 22 (.sliceStr (.tmp 21) (some (.const (.int .i64 1))) none),.m 5 22],.block 0 (.loop (.q [.q [.o [.m 23 5,.m 24 5,.s 25 (.lenStr (.tmp 24)),.bk 26
 .sub false 25 1,.s 27 (.indexStr (.tmp 23) (.tmp 26)),.s 28 (.bin .eql false (.tmp 27) (.const (.int .u8 48)))],.k 28 .skip (.exit 0)],.block 1 (.o [.m 29 5,.m 30 5,.s 31 (.lenStr (.tmp 30)),.bk 32 .sub false 31
 1,.s 33 (.sliceStr (.tmp 29) none (some (.tmp 32))),.m 5 33])])),.o [.m 34 3,.m 35 5,.s 36 (.bin .add false (.const (.string ⟨#[46]⟩)) (.tmp 35)),.bb 37 .add false 34 36,.m 3 37]]) .skip],.q [.o [.m 38 3,.s 39
 (.bin .eql false (.tmp 38) (.const (.string ⟨#[]⟩)))],.k 39 (.q [.o [.s 2 (.mov (.const (.string ⟨#[48]⟩)))],.ret]) .skip],.o [.m 40 3,.m 2 40],.ret]
def vC_:LF:=⟨1,41,c55,[.tmp 2]⟩
theorem wG_:aC_ prog Tryz.f55 vC_:=az_
theorem r0_(f:List UInt8)(h:f≠[]):e5_ f=if f.getLast h=48 then e5_ f.dropLast else f:=by
 have e:f=f.dropLast++[f.getLast h]:=(dropLast_concat_getLast h).symm
 unfold e5_
 by_cases q:f.getLast h=48
 ·rw[if_pos q]
  conv=>lhs;rw[e]
  rw[reverse_append,reverse_singleton,singleton_append,dropWhile_cons,q]
  rfl
 ·rw[if_neg q]
  conv=>lhs;rw[e]
  rw[reverse_append,reverse_singleton,singleton_append,dropWhile_cons]
  have:(f.getLast h==48)=false:=by simpa using q
  rw[this]
  simp only[Bool.false_eq_true,if_false,reverse_cons,reverse_reverse]
  exact e.symm
theorem hA_(u:Nat)(hu:u≤999999999999999999)(h:List Row):PureCall prog 55 [.val (.int .i64 u)] h (.val (.string (txt (cV_ u)))):=by
 refine av_ mixed Tryz.func55 wG_ rfl rfl ?_ h
 have hs:((u:Int)<0)=False:=by first|(simp;done)|(simp;omega)
 have e2:((u:Int) / 1000000)=((u / 1000000:Nat):Int):=by omega
 have e3:((u:Int) % 1000000)=((u % 1000000:Nat):Int):=by omega
 have e4:((1000000:Int)+((u % 1000000:Nat):Int))=((1000000+u % 1000000:Nat):Int):=by omega
 have hw1:=md_ (u / 1000000) (by omega)
 simp(disch:=(try simp only[la_,lc_,ln_]);omega)only[vC_,c55,hs,e2,go_sem,seval]
 refine PureCall.call (hH_ (u / 1000000) (by omega) _) ?_
 by_cases q2:0<u % 1000000
 ·have hq2:((0:Int)<((u % 1000000:Nat):Int))=True:=by first|(simp;done)|(simp;omega)
  have hd2:=ft_ (1000000+u % 1000000) (by omega)
  simp(disch:=(try simp only[la_,lc_,ln_]);omega)only[hq2,e3,e4,go_sem,seval]
  refine PureCall.call (hH_ (1000000+u % 1000000) (by omega) _) ?_
  have hwd:cE_ (1000000+u % 1000000)=Lib.decDigits (1000000+u % 1000000):=by unfold cE_;rw[if_neg (by omega)]
  rw[hwd]
  simp(disch:=(try simp only[la_,lc_,ln_]);omega)only[take_length,go_sem,seval]
  obtain⟨b0,hb0,hb48⟩:=sM_ (r:=u % 1000000) (by omega) (by omega)
  refine a4_ (fun m t h=>∃f:List UInt8,t 5=.val (.string (txt f))∧t 3=.val (.string (txt (cE_ (u / 1000000))))∧m=f.length∧f.length≤20∧(∃b∈f,b≠48)∧e5_ ((Lib.decDigits (1000000+u % 1000000)).drop 1)=e5_ f) _ ⟨_,rfl,rfl,rfl,?_,⟨b0,hb0,hb48⟩,rfl⟩ ?_
  ·rw[length_drop];omega
  ·rintro J hJ m t h ⟨f,t5,t3,rfl,hf,⟨b,hb,hbn⟩,hT⟩
   have hne:f≠[]:=by intro e;subst e;simp at hb
   have hpos:0<f.length:=length_pos_iff.2 hne
   have hlast:f[f.length-1]?=some (f.getLast hne):=by rw[getLast_eq_getElem,getElem?_eq_getElem (by omega)]
   have hsub:((f.length:Int)-1)=((f.length-1:Nat):Int):=by omega
   rw[r0_ f hne]at hT
   by_cases q:f.getLast hne=48
   ·rw[if_pos q]at hT
    have q':(((f.getLast hne).toNat:Int)=48)=True:=eq_true (by rw[q];rfl)
    simp(disch:=(try simp only[la_,lc_,ln_]);omega)only[t5,hsub,hlast,q',go_sem,seval]
    refine⟨f.length-1,by omega,hJ _ _ _ ⟨f.dropLast,by simp[upd,dropLast_eq_take],by simp[upd,t3],by simp,by simp;omega,⟨b,?_,hbn⟩,hT⟩⟩
    have e:f=f.dropLast++[f.getLast hne]:=(dropLast_concat_getLast hne).symm
    rw[e]at hb
    rcases mem_append.1 hb with z|z
    ·exact z
    ·simp at z;rw[q]at z;exact absurd z hbn
   ·rw[if_neg q]at hT
    have q':(((f.getLast hne).toNat:Int)=48)=False:=by
     have:=oQ_ (f.getLast hne) 48
     rw[show((UInt8.toNat 48:Nat):Int)=48 from rfl]at this
     rw[this];simp[q]
    have hne2:(cE_ (u / 1000000)++46::f=[])=False:=by simp
    simp(disch:=(try simp only[la_,lc_,ln_]);omega)only[t5,t3,hsub,hlast,q',hne2,go_sem,seval]
    exact bl_ (by rw[cV_,if_neg (by omega),jn_,if_neg (by omega),hT])
 ·have hq2:((0:Int)<((u % 1000000:Nat):Int))=False:=by first|(simp;done)|(simp;omega)
  simp(disch:=(try simp only[la_,lc_,ln_]);omega)only[hq2,e3,go_sem,seval]
  by_cases hu0:u=0
  ·subst hu0
   have:(cE_ (0 / 1000000)=[])=True:=by simp[cE_]
   simp(disch:=(try simp only[la_,lc_,ln_]);omega)only[this,go_sem,↓reduceIte]
   exact bl_ rfl
  ·have:(cE_ (u / 1000000)=[])=False:=by
    have hx:u / 1000000≠0:=by omega
    simp[cE_,hx,kt_]
   simp(disch:=(try simp only[la_,lc_,ln_]);omega)only[this,go_sem,seval]
   exact bl_ (by rw[cV_,if_neg hu0,jn_,if_pos (by omega)];simp)
theorem qJ_(n:Int)(h:n<0):a3_ n=45::cV_ n.natAbs:=by unfold a3_;rw[if_pos h]
theorem qp_(n:Int)(h:0≤n):a3_ n=cV_ n.natAbs:=by unfold a3_;rw[if_neg (by omega)]
theorem f5_(n:Int)(h1 : -999999999999999999≤n)(h2:n≤999999999999999999)(h:List Row):PureCall prog 55 [.val (.int .i64 n)] h (.val (.string (txt (a3_ n)))):=by
 by_cases hneg:n<0
 ·refine av_ mixed Tryz.func55 wG_ rfl rfl ?_ h
  have e1:(0-n)=((n.natAbs:Nat):Int):=by omega
  have hl:=iD_ (u:=n.natAbs) (by omega)
  simp(disch:=(try simp only[la_,lc_,ln_]);omega)only[vC_,c55,hneg,e1,go_sem,seval]
  refine PureCall.call (hA_ n.natAbs (by omega) _) ?_
  simp(disch:=(try simp only[la_,lc_,ln_]);omega)only[go_sem,↓reduceIte]
  exact bl_ (by rw[qJ_ n hneg])
 ·have e:n=((n.natAbs:Nat):Int):=by omega
  rw[qp_ n (by omega)]
  have:=hA_ n.natAbs (by omega) h
  rw[←e]at this
  exact this
theorem vb_{l:List UInt8}{k:Nat}(hk:k<l.length)(hs:c7_ l[k]=true){m:Bool}(h:dH_ l=(m != (((l.drop k).takeWhile c7_).count 45 % 2==1))) :
 dH_ l=((m != (l[k]==45)) != (((l.drop (k+1)).takeWhile c7_).count 45 % 2==1)):=by
 rw[h,dr_ l k hk,takeWhile_cons,if_pos hs,count_cons]
 generalize ((l.drop (k+1)).takeWhile c7_).count 45=c
 by_cases q:l[k]=45
 ·rw[q]
  have h1:((c+1) % 2==1)=!(c % 2==1):=by
   rw[Bool.eq_iff_iff];simp;omega
  simp only[BEq.rfl,if_true,h1]
  cases m<;>cases(c % 2==1)<;>rfl
 ·have q':(l[k]==45)=false:=by simpa using q
  simp[q']
def y7_:LC :=
 .q [.o [.ki 2 0],.o [.ki 3 0],.o [.f 4],.block 0 (.loop (.q [.q [.o [.m 7 3,.m 8 0,.s 9 (.lenStr (.tmp 8)),.bb 10 .lss false 7 9,.m 11 10,.gm 12 11 true 0,.gm 13 11 true 3,.g 14 11 true (.indexStr (.tmp 12)
 (.tmp 13)),.g 15 11 true (.bin .eql false (.tmp 14) (.const (.int .u8 43))),.gm 16 11 true 15,.gm 17 16 false 0,.gm 18 16 false 3,.g 19 16 false (.indexStr (.tmp 17) (.tmp 18)),.g 20 16 false (.bin .eql false (.tmp
 19) (.const (.int .u8 45))),.g 21 11 true (.pick (.tmp 16) (.const (.bool true)) (.tmp 20)),.pf 22 11 21],.k 22 .skip (.exit 0)],.block 1 (.q [.o [.m 23 4,.m 24 0,.m 25 3,.s 26 (.indexStr (.tmp 24) (.tmp 25)),.s
 27 (.bin .eql false (.tmp 26) (.const (.int .u8 45))),.bb 28 .neq true 23 27,.m 4 28],.o [.m 29 3,.bk 30 .add false 29 1,.m 3 30]])])),.o [.ki 5 0],.block 2 (.loop (.q [.q [.o [.m 31 3,.m 32 0,.s 33 (.lenStr
 (.tmp 32)),.bb 34 .lss false 31 33,.m 35 34,.gm 36 35 true 0,.gm 37 35 true 3,.g 38 35 true (.indexStr (.tmp 36) (.tmp 37)),.gc 39 35 true 191 38,.pf 40 35 39],.k 40 .skip (.exit 2)],.block 3 (.q [.o [.m 41 5,
 .s 42 (.bin .mul false (.const (.int .i64 10)) (.tmp 41)),.m 43 0,.m 44 3,.s 45 (.indexStr (.tmp 43) (.tmp 44)),.s 46 (.bin .sub false (.tmp 45) (.const (.int .u8 48))),.s 47 (.convInt .i64 (.tmp 46)),.bb 48 .add
 false 42 47,.s 49 (.call 223 [.tmp 48,.const (.int .i64 1000000000000)]),.m 5 49],.o [.m 50 3,.bk 51 .add false 50 1,.m 3 51]])])),.o [.m 52 5,.bk 53 .mul false 52 1000000,.s 54 (.call 223 [.tmp 53,.const (.int
 .i64 1000000000000000000)]),.m 5 54],.q [.o [.m 55 3,.m 56 0,.s 57 (.lenStr (.tmp 56)),.bb 58 .lss false 55 57,.m 59 58,.gm 60 59 true 0,.gm 61 59 true 3,.g 62 59 true (.indexStr (.tmp 60) (.tmp 61)),.g 63 59
 true (.bin .eql false (.tmp 62) (.const (.int .u8 46))),.pf 64 59 63],.k 64 (.q [.o [.ki 6 100000],.o [.m 65 3,.bk 66 .add false 65 1,.m 3 66],.block 4 (.loop (.q [.q [.o [.m 67 3,.m 68 0,.s 69 (.lenStr (.tmp
 68)),.bb 70 .lss false 67 69,.m 71 70,.gm 72 71 true 0,.gm 73 71 true 3,.g 74 71 true (.indexStr (.tmp 72) (.tmp 73)),.gc 75 71 true 191 74,.pf 76 71 75],.k 76 .skip (.exit 4)],.block 5 (.q [.o [.m 79 5,.m 80
 0,.m 81 3,.s 82 (.indexStr (.tmp 80) (.tmp 81)),.s 83 (.bin .sub false (.tmp 82) (.const (.int .u8 48))),.s 84 (.convInt .i64 (.tmp 83)),.m 85 6,.bb 86 .mul false 84 85,.bb 87 .add false 79 86,.m 5 87],.o [.m 88
 6,.bk 89 .quo false 88 10,.m 6 89]]),.o [.m 77 3,.bk 78 .add false 77 1,.m 3 78]]))]) .skip],.o [.m 90 5,.s 91 (.call 223 [.tmp 90,.const (.int .i64 999999999999999999)]),.m 5 91],.q [.o [.m 92 4],.k 92 (.q
 [.o [.m 93 5,.s 94 (.un .neg (.tmp 93)),.m 2 94],.ret]) .skip],.o [.m 95 5,.m 2 95],.ret]
def vR_:LF:=⟨1,96,y7_,[.tmp 2]⟩
theorem yo_:aC_ prog Tryz.f193 vR_:=az_
theorem jH_(l:List UInt8)(hl:l.length≤1900000)(h:List Row):PureCall prog 193 [.val (.string (txt l))] h (.val (.int .i64 (b3_ l))):=by
 refine av_ mixed Tryz.func193 yo_ rfl rfl ?_ h
 simp(disch:=(try simp only[la_,lc_,ln_]);omega)only[vR_,y7_,go_sem]
 refine iC_ (fun m t h=>∃(k:Nat) (s:Bool),t 0=.val (.string (txt l))∧t 3=.val (.int .i64 k)∧t 4=.val (.bool s)∧m=l.length-k∧k≤l.length∧bf_ l=(l.drop k).dropWhile c7_∧dH_ l=(s != (((l.drop k).takeWhile c7_).count 45 % 2==1))) l.length
  (fun t h=>∃k:Nat,t 0=.val (.string (txt l))∧t 3=.val (.int .i64 k)∧t 4=.val (.bool (dH_ l))∧k≤l.length∧bf_ l=l.drop k) ⟨0,false,rfl,rfl,rfl,rfl,Nat.zero_le _,rfl,by simp[dH_]⟩ ?_ ?_
 ·rintro J hJ k' hE m t h ⟨k,s,t0,t3,t4,rfl,hk,hR,hN⟩
  by_cases hlt:k<l.length
  ·have hu:=mm_ l[k]
   have e43:=oQ_ l[k] 43
   have e45:=oQ_ l[k] 45
   rw[show((UInt8.toNat 43:Nat):Int)=43 from rfl]at e43
   rw[show((UInt8.toNat 45:Nat):Int)=45 from rfl]at e45
   by_cases hs:c7_ l[k]=true
   ·have hR':bf_ l=(l.drop (k+1)).dropWhile c7_:=by rw[hR,dr_ l k hlt,dropWhile_cons,if_pos hs]
    have hN':=vb_ hlt hs hN
    by_cases q:l[k]=43
    ·have q45:¬ (l[k]=45):=by rw[q];decide
     have e43':=e43.trans (eq_true q)
     have e45':=e45.trans (eq_false q45)
     simp(disch:=(try simp only[la_,lc_,ln_]);omega)only[t0,t3,t4,hlt,e43',e45',go_sem,seval]
     refine⟨l.length-(k+1),by omega,hJ _ _ _ ⟨k+1,s,by simp[upd,t0],by simp[upd],by simp[upd],rfl,by omega,hR',?_⟩⟩
     rw[hN',q];simp
    ·have q45:l[k]=45:=by simpa[c7_,q]using hs
     have e43':=e43.trans (eq_false q)
     have e45':=e45.trans (eq_true q45)
     simp(disch:=(try simp only[la_,lc_,ln_]);omega)only[t0,t3,t4,hlt,e43',e45',go_sem,seval]
     refine⟨l.length-(k+1),by omega,hJ _ _ _ ⟨k+1,!s,by simp[upd,t0],by simp[upd],by simp[upd];try cases s<;>rfl,rfl,by omega,hR',?_⟩⟩
     rw[hN',q45];cases s<;>simp
   ·have hs':c7_ l[k]=false:=by simpa using hs
    have q43:¬ (l[k]=43):=by intro e;rw[e]at hs;exact hs rfl
    have q45:¬ (l[k]=45):=by intro e;rw[e]at hs;exact hs rfl
    have e43':=e43.trans (eq_false q43)
    have e45':=e45.trans (eq_false q45)
    have hR':bf_ l=l.drop k:=by rw[hR,dr_ l k hlt,dropWhile_cons,hs'];rfl
    have hN':dH_ l=s:=by rw[hN,dr_ l k hlt,takeWhile_cons,hs'];simp
    simp(disch:=(try simp only[la_,lc_,ln_]);omega)only[t0,t3,hlt,e43',e45',go_sem,seval]
    exact hE _ _ ⟨k,by simp[upd,t0],by simp[upd,t3],by simp[upd,t4,hN'],hk,hR'⟩
  ·have hR':bf_ l=l.drop k:=by rw[hR,drop_eq_nil_of_le (by omega)];rfl
   have hN':dH_ l=s:=by rw[hN,drop_eq_nil_of_le (by omega)];simp
   simp(disch:=(try simp only[la_,lc_,ln_]);omega)only[t0,t3,hlt,go_sem,seval]
   exact hE _ _ ⟨k,by simp[upd,t0],by simp[upd,t3],by simp[upd,t4,hN'],hk,hR'⟩
 rintro t h ⟨k0,t0,t3,t4,hk0,hR⟩
 simp(disch:=(try simp only[la_,lc_,ln_]);omega)only[go_sem]
 refine iC_ (fun m t h=>∃(k n:Nat),t 0=.val (.string (txt l))∧t 3=.val (.int .i64 k)∧t 4=.val (.bool (dH_ l))∧t 5=.val (.int .i64 n)∧m=l.length-k∧k≤l.length∧n≤1000000000000∧(bf_ l).dropWhile bs_=(l.drop k).dropWhile bs_∧dq_ 0 (bf_ l)=dq_ n (l.drop k)) (l.length-k0)
  (fun t h=>∃k:Nat,t 0=.val (.string (txt l))∧t 3=.val (.int .i64 k)∧t 4=.val (.bool (dH_ l))∧t 5=.val (.int .i64 (dq_ 0 (bf_ l):Nat))∧k≤l.length∧dq_ 0 (bf_ l)≤1000000000000∧(bf_ l).dropWhile bs_=l.drop k) ⟨k0,0,by simp[upd,t0],by simp[upd,t3],by simp[upd,t4],by simp[upd],rfl,hk0,by decide,by rw[hR],by rw[hR]⟩ ?_ ?_
 ·rintro J hJ k' hE m t h ⟨k,n,t0,t3,t4,t5,rfl,hk,hn,hD,hW⟩
  by_cases hlt:k<l.length
  ·have hu:=mm_ l[k]
   simp(disch:=(try simp only[la_,lc_,ln_]);omega)only[t0,t3,hlt,go_sem,seval]
   refine PureCall.call (hE_ l[k] _) ?_
   by_cases hd:bs_ l[k]=true
   ·have hr:=kn_ hd
    rw[dr_ l k hlt,dq_,if_pos hd]at hW
    rw[dr_ l k hlt,dropWhile_cons,if_pos hd]at hD
    simp(disch:=(try simp only[la_,lc_,ln_]);omega)only[t0,t3,t5,hd,go_sem,seval]
    refine PureCall.call (d6_ _ _ _) ?_
    simp(disch:=(try simp only[la_,lc_,ln_]);omega)only[t3,go_sem,seval]
    refine⟨l.length-(k+1),by omega,hJ _ _ _ ⟨k+1,min (10 * n+dgt l[k]) 1000000000000,by simp[upd,t0],by simp[upd],by simp[upd,t4],?_,rfl,by omega,by omega,hD,hW⟩⟩
    simp only[upd,dgt];simp;omega
   ·have hd':bs_ l[k]=false:=by simpa using hd
    rw[dr_ l k hlt,dq_,if_neg hd]at hW
    have hD':(bf_ l).dropWhile bs_=l.drop k:=by rw[hD,dr_ l k hlt,dropWhile_cons,hd'];rfl
    simp(disch:=(try simp only[la_,lc_,ln_]);omega)only[hd',go_sem,seval]
    exact hE _ _ ⟨k,by simp[upd,t0],by simp[upd,t3],by simp[upd,t4],by simp[upd,t5,hW],hk,by omega,hD'⟩
  ·rw[drop_eq_nil_of_le (by omega),dq_]at hW
   have hD':(bf_ l).dropWhile bs_=l.drop k:=by rw[hD,drop_eq_nil_of_le (by omega)];rfl
   simp(disch:=(try simp only[la_,lc_,ln_]);omega)only[t0,t3,hlt,go_sem,seval]
   exact hE _ _ ⟨k,by simp[upd,t0],by simp[upd,t3],by simp[upd,t4],by simp[upd,t5,hW],hk,by omega,hD'⟩
 rintro t h ⟨k1,t0,t3,t4,t5,hk1,hwl,hD⟩
 simp(disch:=(try simp only[la_,lc_,ln_]);omega)only[t5,go_sem,↓reduceIte]
 refine PureCall.call (d6_ _ _ _) ?_
 obtain⟨n1,hn1⟩:∃n1:Nat,n1=min (dq_ 0 (bf_ l) * 1000000) 1000000000000000000:=⟨_,rfl⟩
 have en1:min ((dq_ 0 (bf_ l):Int) * 1000000) 1000000000000000000=(n1:Int):=by omega
 rw[en1]
 have hle:=kp_ l
 have hab:min (n1+db_ 0 (six (cx_ (bf_ l)))) 999999999999999999=fq_ l:=by rw[hn1];exact uK_ l
 have habI:∀x:Nat,x=n1+db_ 0 (six (cx_ (bf_ l)))→min (x:Int) 999999999999999999=(fq_ l:Int):=by intro x hx;omega
 have hn1le:n1≤1000000000000000000:=by omega
 by_cases hlt:k1<l.length
 case neg =>
  have hfr:cx_ (bf_ l)=[]:=hh_ (by rw[hD,drop_eq_nil_of_le (by omega)];simp)
  have hz:=habI n1 (by rw[hfr];rfl)
  simp(disch:=(try simp only[la_,lc_,ln_]);omega)only[t0,t3,hlt,go_sem,seval]
  refine PureCall.call (d6_ _ _ _) ?_
  simp(disch:=(try simp only[la_,lc_,ln_]);omega)only[t4,hz,go_sem,seval]
  refine as_ (fun hb=>?_) (fun hb=>?_)
  ·simp(disch:=(try simp only[la_,lc_,ln_]);omega)only[go_sem,seval]
   exact aM_ (by unfold b3_;rw[if_pos hb];omega)
  ·simp(disch:=(try simp only[la_,lc_,ln_]);omega)only[go_sem,seval]
   exact aM_ (by unfold b3_;rw[if_neg (by rw[hb];decide)])
 have e46:=oQ_ l[k1] 46
 rw[show((UInt8.toNat 46:Nat):Int)=46 from rfl]at e46
 by_cases hdot:l[k1]=46
 case neg =>
  have e46':=e46.trans (eq_false hdot)
  have hfr:cx_ (bf_ l)=[]:=hh_ (by rw[hD,dr_ l k1 hlt];intro t e;exact hdot (List.cons.inj e).1)
  have hz:=habI n1 (by rw[hfr];rfl)
  simp(disch:=(try simp only[la_,lc_,ln_]);omega)only[t0,t3,hlt,e46',go_sem,seval]
  refine PureCall.call (d6_ _ _ _) ?_
  simp(disch:=(try simp only[la_,lc_,ln_]);omega)only[t4,hz,go_sem,seval]
  refine as_ (fun hb=>?_) (fun hb=>?_)
  ·simp(disch:=(try simp only[la_,lc_,ln_]);omega)only[go_sem,seval]
   exact aM_ (by unfold b3_;rw[if_pos hb];omega)
  ·simp(disch:=(try simp only[la_,lc_,ln_]);omega)only[go_sem,seval]
   exact aM_ (by unfold b3_;rw[if_neg (by rw[hb];decide)])
 have e46':=e46.trans (eq_true hdot)
 have hfr:cx_ (bf_ l)=(l.drop (k1+1)).takeWhile bs_:=jf_ (by rw[hD,dr_ l k1 hlt,hdot])
 have hrun:n1+db_ 0 (six (cx_ (bf_ l)))=d4_ n1 100000 (l.drop (k1+1)):=by
  rw[hfr];exact(jo_ (l.drop (k1+1)) n1 6 (by decide)).symm
 simp(disch:=(try simp only[la_,lc_,ln_]);omega)only[t0,t3,hlt,e46',go_sem,seval]
 refine iC_ (fun m t h=>∃(k n u:Nat),t 0=.val (.string (txt l))∧t 3=.val (.int .i64 k)∧t 4=.val (.bool (dH_ l))∧t 5=.val (.int .i64 n)∧t 6=.val (.int .i64 u)∧m=l.length-k∧k≤l.length∧n+10 * u≤1000000000001000000∧d4_ n1 100000 (l.drop (k1+1))=d4_ n u (l.drop k)) (l.length-(k1+1))
  (fun t h=>t 4=.val (.bool (dH_ l))∧t 5=.val (.int .i64 (d4_ n1 100000 (l.drop (k1+1)):Nat))) ⟨k1+1,n1,100000,by simp[upd,t0],by simp[upd],by simp[upd,t4],by simp[upd],by simp[upd],rfl,by omega,by omega,rfl⟩ ?_ ?_
 ·rintro J hJ k' hE m t h ⟨k,n,u,t0,t3,t4,t5,t6,rfl,hk,hb,hF⟩
  by_cases hlt:k<l.length
  ·have hu:=mm_ l[k]
   simp(disch:=(try simp only[la_,lc_,ln_]);omega)only[t0,t3,hlt,go_sem,seval]
   refine PureCall.call (hE_ l[k] _) ?_
   by_cases hd:bs_ l[k]=true
   ·have hr:=kn_ hd
    rw[dr_ l k hlt,d4_,if_pos hd]at hF
    have hmul:dgt l[k] * u≤9 * u:=Nat.mul_le_mul_right _ (by unfold dgt;omega)
    have e5:(((l[k].toNat:Nat):Int)-48) * ((u:Nat):Int)=((dgt l[k] * u:Nat):Int):=by
     have:((l[k].toNat:Nat):Int)-48=((dgt l[k]:Nat):Int):=by unfold dgt;omega
     rw[this];simp
    have e6:((u:Nat):Int) / 10=((u / 10:Nat):Int):=by omega
    simp(disch:=(try simp only[la_,lc_,ln_]);omega)only[t0,t3,t5,t6,hd,e5,e6,go_sem,seval]
    refine⟨l.length-(k+1),by omega,hJ _ _ _ ⟨k+1,n+dgt l[k] * u,u / 10,by simp[upd,t0],by simp[upd],by simp[upd,t4],by simp[upd],by simp[upd],rfl,by omega,by omega,hF⟩⟩
   ·have hd':bs_ l[k]=false:=by simpa using hd
    rw[dr_ l k hlt,d4_,if_neg hd]at hF
    simp(disch:=(try simp only[la_,lc_,ln_]);omega)only[hd',go_sem,seval]
    exact hE _ _ ⟨by simp[upd,t4],by simp[upd,t5,hF]⟩
  ·have hnil:l.drop k=[]:=drop_eq_nil_of_le (by omega)
   rw[hnil,d4_]at hF
   simp(disch:=(try simp only[la_,lc_,ln_]);omega)only[t0,t3,hlt,go_sem,seval]
   exact hE _ _ ⟨by simp[upd,t4],by simp[upd,t5,hF]⟩
 rintro t h ⟨t4,t5⟩
 have hz:=habI _ hrun.symm
 simp(disch:=(try simp only[la_,lc_,ln_]);omega)only[t5,go_sem,↓reduceIte]
 refine PureCall.call (d6_ _ _ _) ?_
 simp(disch:=(try simp only[la_,lc_,ln_]);omega)only[t4,hz,go_sem,seval]
 refine as_ (fun hb=>?_) (fun hb=>?_)
 ·simp(disch:=(try simp only[la_,lc_,ln_]);omega)only[go_sem,seval]
  exact aM_ (by unfold b3_;rw[if_pos hb];omega)
 ·simp(disch:=(try simp only[la_,lc_,ln_]);omega)only[go_sem,seval]
  exact aM_ (by unfold b3_;rw[if_neg (by rw[hb];decide)])
def sn_:LC :=
 .q [.o [.f 2],.o [.m 3 0,.s 4 (.bin .neq false (.tmp 3) (.const (.string ⟨#[]⟩))),.m 5 4,.gm 6 5 true 0,.g 7 5 true (.lenStr (.tmp 6)),.g 8 5 true (.bin .leq false (.tmp 7) (.const (.int .i64 21))),.pf 9 5 8,.m
 10 9,.gm 11 10 true 0,.gc 12 10 true 193 11,.gc 13 10 true 55 12,.gm 14 10 true 0,.g 15 10 true (.bin .eql false (.tmp 13) (.tmp 14)),.pf 16 10 15,.m 2 16],.ret]
def oS_:LF:=⟨1,17,sn_,[.tmp 2]⟩
theorem Ae_:aC_ prog Tryz.f192 oS_:=az_
theorem lC_(l:List UInt8)(hl:l.length≤1900000)(h:List Row):PureCall prog 192 [.val (.string (txt l))] h (.val (.bool (dI_ l))):=by
 refine av_ mixed Tryz.func192 Ae_ rfl rfl ?_ h
 rw[←su_]
 have hr:=er_ l
 by_cases h0:l=[]
 ·have h0':(l=[])=True:=eq_true h0
  simp(disch:=(try simp only[la_,lc_,ln_]);omega)only[oS_,sn_,h0',go_sem,seval]
  exact af_ (by simp[h0])
 ·have h0':(l=[])=False:=eq_false h0
  by_cases h21:(l.length:Int)≤21
  ·simp(disch:=(try simp only[la_,lc_,ln_]);omega)only[oS_,sn_,h0',h21,go_sem,seval]
   refine PureCall.call (jH_ l hl _) ?_
   simp(disch:=(try simp only[la_,lc_,ln_]);omega)only[go_sem,seval]
   refine PureCall.call (f5_ _ hr.1 hr.2 _) ?_
   simp(disch:=(try simp only[la_,lc_,ln_]);omega)only[go_sem,seval]
   have:l.length≤21:=by omega
   exact af_ (by simp[this])
  ·simp(disch:=(try simp only[la_,lc_,ln_]);omega)only[oS_,sn_,h0',h21,go_sem,seval]
   have:¬ (l.length≤21):=by omega
   exact af_ (by simp[this])
end Go.Proofs.YtlcmlgihlojdmaaGreatDoor
