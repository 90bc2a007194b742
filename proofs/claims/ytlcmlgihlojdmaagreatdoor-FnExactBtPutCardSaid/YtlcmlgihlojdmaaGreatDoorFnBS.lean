/-
 Contracts of functions. Conditions: as each theorem says.
-/
import Derived.Test.YtlcmlgihlojdmaaGreatDoorFnBI
import Derived.Test.YtlcmlgihlojdmaaGreatDoorAwShed
namespace Go.Proofs.YtlcmlgihlojdmaaGreatDoor
open Tryz (prog)
open List
open Go.AW
set_option linter.unusedVariables false
set_option linter.unusedSimpArgs false
set_option maxRecDepth 4000
open Nat (reduceEqDiff reduceLeDiff)
def c67:LC :=
 .q [.o [.bx 1 77 0,.s 2 (.alloc 77 z0z)],.gops [.fa 3 0 1,.ln 4 3,.fa 5 1 1,.ln 6 5,.fa 8 2 1,.ln 9 8,.fa 11 3 1,.ln 12 11] [(.c1 7 113 6,[.fa 3 0 1,.ln 4 3,.fa 8 2 1,.ln 9 8,.fa 11 3 1,.ln 12 11]),(.c1
 10 113 9,[.fa 3 0 1,.ln 4 3,.fa 11 3 1,.ln 12 11]),(.c1 13 115 12,[.fa 3 0 1,.ln 4 3]),(.s 14 (.build z0z [(0,1),(1,1),(2,1),(3,1)] [(0,.tmp 4),(1,.tmp 7),(2,.tmp 10),(3,.tmp 13)]),[]),(.st 4 2
 14,[])],.ret]
def v4_:LF:=⟨1,15,c67,[.cell 2 (some 4)]⟩
theorem yf_:aA_ prog Tryz.f67 v4_:=as_
def AH_:LC :=
 .q [.o [.bx 1 28 0,.ki 2 0],.q [.o [.ki 3 1],.block 0 (.loop (.q [.q [.o [.m 4 3,.bk 5 .leq false 4 64],.k 5 .skip (.exit 0)],.block 1 (.q [.o [.ld 8 2 1,.m 9 3,.c2 10 105 8 9,.bk 11 .lss false 10 0],.k 11 (.q
 [.o [.m 12 3,.m 2 12],.ret]) .skip]),.o [.m 6 3,.bk 7 .add false 6 1,.m 3 7]]))],.o [.ki 2 0],.ret]
def xP_:LF:=⟨1,13,AH_,[.tmp 2]⟩
theorem Ac_:aA_ prog Tryz.f118 xP_:=as_
def zJ_:LC :=
 .q [.o [.bx 2 77 0,.ki 4 0,.f 5],.o [.ki 6 0],.block 0 (.loop (.q [.q [.o [.m 8 6,.fa 9 1 2,.ln 10 9,.ll 11 10,.bb 12 .lss false 8 11,.m 13 12,.gf 14 13 true 1 2,.gn 15 13 true 14,.gm 16 13 true 6,.g 17 13
 true (.indexAddr 1 (.tmp 15) (.tmp 16)),.gn 18 13 true 17,.gm 19 13 true 1,.g 20 13 true (.bin .lss false (.tmp 18) (.tmp 19)),.pf 21 13 20],.k 21 .skip (.exit 0)],.block 1 (.o [.m 22 6,.bk 23 .add false 22 1,.m
 6 23])])),.o [.m 24 6,.fa 25 1 2,.ln 26 25,.ll 27 26,.bb 28 .lss false 24 27,.m 29 28,.gf 30 29 true 1 2,.gn 31 29 true 30,.gm 32 29 true 6,.g 33 29 true (.indexAddr 1 (.tmp 31) (.tmp 32)),.gn 34 29 true 33,
 .gm 35 29 true 1,.g 36 29 true (.bin .eql false (.tmp 34) (.tmp 35)),.pf 37 29 36,.m 7 37],.q [.o [.m 38 7,.m 39 38,.gf 40 39 true 0 2,.gn 41 39 true 40,.gu 42 39 true 41,.pf 43 39 42],.k 43 (.o [.m 44 6,.bk
 45 .add false 44 1,.m 6 45]) .skip],.o [.m 46 6,.m 47 7,.m 4 46,.m 5 47],.ret]
def xr_:LF:=⟨2,48,zJ_,[.tmp 4,.tmp 5]⟩
theorem zp_:aA_ prog Tryz.f114 xr_:=as_
def c69:LC :=
 .q [.o [.nl 6],.o [.s 8 (.buildSlice 9 1 (.string ⟨#[]⟩) 0 []),.m 9 0,.m 10 1,.s 11 (.sliceSl 1 (.tmp 9) none (some (.tmp 10))),.ap 12 9 1 16 8 11,.m 7 12],.o [.m 13 7,.m 14 2,.s 15 (.buildSlice 9 1 (.string
 ⟨#[]⟩) 1 [(0,.tmp 14)]),.ap 16 9 1 16 13 15,.m 7 16],.o [.m 17 7,.m 18 0,.m 19 1,.s 20 (.sliceSl 1 (.tmp 18) (some (.tmp 19)) none),.ap 21 9 1 16 17 20,.m 6 21],.ret]
def zK_:LF:=⟨3,22,c69,[.tmp 6]⟩
theorem Cs_:aA_ prog Tryz.f69 zK_:=as_
def Ah_:LC :=
 .q [.o [.nl 6],.o [.s 8 (.buildSlice 2 1 (.int .i64 0) 0 []),.m 9 0,.m 10 1,.s 11 (.sliceSl 1 (.tmp 9) none (some (.tmp 10))),.ap 12 2 1 8 8 11,.m 7 12],.o [.m 13 7,.m 14 2,.s 15 (.buildSlice 2 1 (.int .i64 0) 1
 [(0,.tmp 14)]),.ap 16 2 1 8 13 15,.m 7 16],.o [.m 17 7,.m 18 0,.m 19 1,.s 20 (.sliceSl 1 (.tmp 18) (some (.tmp 19)) none),.ap 21 2 1 8 17 20,.m 6 21],.ret]
def xM_:LF:=⟨3,22,Ah_,[.tmp 6]⟩
theorem z4_:aA_ prog Tryz.f119 xM_:=as_
def vg_:LC :=
 .q [.o [.bx 1 77 0,.s 2 (.alloc 77 z0z),.s 3 (.alloc 77 z0z),.s 4 (.mov (.const (.string ⟨#[]⟩)))],.o [.ki 5 3],.q [.o [.fa 6 0 1,.ln 7 6],.k 7 (.q [.gops [.fa 8 1 1,.ln 9 8,.m 10 5,.s 11 (.sliceSl 1 (.tmp 9)
 none (some (.tmp 10))),.fa 13 2 1,.ln 14 13,.m 15 5,.s 16 (.sliceSl 1 (.tmp 14) none (some (.tmp 15))),.fa 19 1 1,.ln 20 19,.m 21 5,.s 22 (.sliceSl 1 (.tmp 20) (some (.tmp 21)) none),.fa 24 2 1,.ln 25 24,.m 26
 5,.s 27 (.sliceSl 1 (.tmp 25) (some (.tmp 26)) none),.fa 30 1 1,.ln 31 30,.m 32 5,.ia 33 1 31 32,.ln 34 33] [(.c1 12 113 11,[.fa 13 2 1,.ln 14 13,.m 15 5,.s 16 (.sliceSl 1 (.tmp 14) none (some (.tmp 15))),.fa
 19 1 1,.ln 20 19,.m 21 5,.s 22 (.sliceSl 1 (.tmp 20) (some (.tmp 21)) none),.fa 24 2 1,.ln 25 24,.m 26 5,.s 27 (.sliceSl 1 (.tmp 25) (some (.tmp 26)) none),.fa 30 1 1,.ln 31 30,.m 32 5,.ia 33 1 31 32,.ln 34
 33]),(.c1 17 113 16,[.fa 19 1 1,.ln 20 19,.m 21 5,.s 22 (.sliceSl 1 (.tmp 20) (some (.tmp 21)) none),.fa 24 2 1,.ln 25 24,.m 26 5,.s 27 (.sliceSl 1 (.tmp 25) (some (.tmp 26)) none),.fa 30 1 1,.ln 31 30,.m 32
 5,.ia 33 1 31 32,.ln 34 33]),(.s 18 (.build z0z [(0,1),(1,1),(2,1),(3,1)] [(0,.const (.bool true)),(1,.tmp 12),(2,.tmp 17)]),[.fa 19 1 1,.ln 20 19,.m 21 5,.s 22 (.sliceSl 1 (.tmp 20) (some (.tmp 21))
 none),.fa 24 2 1,.ln 25 24,.m 26 5,.s 27 (.sliceSl 1 (.tmp 25) (some (.tmp 26)) none),.fa 30 1 1,.ln 31 30,.m 32 5,.ia 33 1 31 32,.ln 34 33]),(.c1 23 113 22,[.fa 24 2 1,.ln 25 24,.m 26 5,.s 27 (.sliceSl 1
 (.tmp 25) (some (.tmp 26)) none),.fa 30 1 1,.ln 31 30,.m 32 5,.ia 33 1 31 32,.ln 34 33]),(.c1 28 113 27,[.fa 30 1 1,.ln 31 30,.m 32 5,.ia 33 1 31 32,.ln 34 33]),(.s 29 (.build z0z [(0,1),(1,1),(2,1),(3,
 1)] [(0,.const (.bool true)),(1,.tmp 23),(2,.tmp 28)]),[.fa 30 1 1,.ln 31 30,.m 32 5,.ia 33 1 31 32,.ln 34 33]),(.st 4 2 18,[.fa 30 1 1,.ln 31 30,.m 32 5,.ia 33 1 31 32,.ln 34 33]),(.st 4 3 29,[.fa 30 1
 1,.ln 31 30,.m 32 5,.ia 33 1 31 32,.ln 34 33]),(.m 4 34,[])],.ret]) .skip],.gops [.fa 35 1 1,.ln 36 35,.m 37 5,.bk 38 .sub false 37 1,.s 39 (.sliceSl 1 (.tmp 36) none (some (.tmp 38))),.fa 41 3 1,.ln 42 41,
 .m 43 5,.s 44 (.sliceSl 1 (.tmp 42) none (some (.tmp 43))),.fa 47 1 1,.ln 48 47,.m 49 5,.s 50 (.sliceSl 1 (.tmp 48) (some (.tmp 49)) none),.fa 52 3 1,.ln 53 52,.m 54 5,.s 55 (.sliceSl 1 (.tmp 53) (some (.tmp
 54)) none),.fa 58 1 1,.ln 59 58,.m 60 5,.bk 61 .sub false 60 1,.ia 62 1 59 61,.ln 63 62] [(.c1 40 113 39,[.fa 41 3 1,.ln 42 41,.m 43 5,.s 44 (.sliceSl 1 (.tmp 42) none (some (.tmp 43))),.fa 47 1 1,.ln 48 47,
 .m 49 5,.s 50 (.sliceSl 1 (.tmp 48) (some (.tmp 49)) none),.fa 52 3 1,.ln 53 52,.m 54 5,.s 55 (.sliceSl 1 (.tmp 53) (some (.tmp 54)) none),.fa 58 1 1,.ln 59 58,.m 60 5,.bk 61 .sub false 60 1,.ia 62 1 59 61,.ln
 63 62]),(.c1 45 115 44,[.fa 47 1 1,.ln 48 47,.m 49 5,.s 50 (.sliceSl 1 (.tmp 48) (some (.tmp 49)) none),.fa 52 3 1,.ln 53 52,.m 54 5,.s 55 (.sliceSl 1 (.tmp 53) (some (.tmp 54)) none),.fa 58 1 1,.ln 59 58,.m
 60 5,.bk 61 .sub false 60 1,.ia 62 1 59 61,.ln 63 62]),(.s 46 (.build z0z [(0,1),(1,1),(2,1),(3,1)] [(1,.tmp 40),(3,.tmp 45)]),[.fa 47 1 1,.ln 48 47,.m 49 5,.s 50 (.sliceSl 1 (.tmp 48) (some (.tmp 49))
 none),.fa 52 3 1,.ln 53 52,.m 54 5,.s 55 (.sliceSl 1 (.tmp 53) (some (.tmp 54)) none),.fa 58 1 1,.ln 59 58,.m 60 5,.bk 61 .sub false 60 1,.ia 62 1 59 61,.ln 63 62]),(.c1 51 113 50,[.fa 52 3 1,.ln 53 52,.m
 54 5,.s 55 (.sliceSl 1 (.tmp 53) (some (.tmp 54)) none),.fa 58 1 1,.ln 59 58,.m 60 5,.bk 61 .sub false 60 1,.ia 62 1 59 61,.ln 63 62]),(.c1 56 115 55,[.fa 58 1 1,.ln 59 58,.m 60 5,.bk 61 .sub false 60 1,.ia
 62 1 59 61,.ln 63 62]),(.s 57 (.build z0z [(0,1),(1,1),(2,1),(3,1)] [(1,.tmp 51),(3,.tmp 56)]),[.fa 58 1 1,.ln 59 58,.m 60 5,.bk 61 .sub false 60 1,.ia 62 1 59 61,.ln 63 62]),(.st 4 2 46,[.fa 58 1 1,
 .ln 59 58,.m 60 5,.bk 61 .sub false 60 1,.ia 62 1 59 61,.ln 63 62]),(.st 4 3 57,[.fa 58 1 1,.ln 59 58,.m 60 5,.bk 61 .sub false 60 1,.ia 62 1 59 61,.ln 63 62]),(.m 4 63,[])],.ret]
def s0_:LF:=⟨1,64,vg_,[.cell 2 (some 4),.cell 3 (some 4),.tmp 4]⟩
theorem uT_:aA_ prog Tryz.f117 s0_:=as_
def z6_:LC :=
 .q [.o [.bx 1 77 0,.f 2],.o [.fa 3 1 1,.ln 4 3,.ll 5 4,.bk 6 .gtr false 5 6,.m 7 6,.gf 8 7 false 3 1,.gn 9 7 false 8,.g 10 7 false (.lenSl (.tmp 9)),.g 11 7 false (.bin .gtr false (.tmp 10) (.const (.int .i64
 6))),.pt 12 7 11,.m 2 12],.ret]
def xg_:LF:=⟨1,13,z6_,[.tmp 2]⟩
theorem zU_:aA_ prog Tryz.f116 xg_:=as_
theorem e2_(p:am_)(hk:p.Keys.length≤1048576)(hv:p.Vals.length≤1048576)(hd:p.Kids.length≤1048576)(h:List Row):aa_ prog 67 [.agg (am_.cells p)] h (.agg (am_.cells p)):=by
 refine ar_ mixed Tryz.func67 yf_ rfl rfl ?_ h
 simp(disch:=omega)only[v4_,c67,am_.cells,go_sem,seval]
 repeat' (first
  | exact ah_ _ _
  | (exact fG_ _ _ rfl)
  | simp(disch:=omega)only[bR_,Option.map_some,go_sem,seval]
  | (refine aa_.call (cl_ _ hk _) ?_)
  | (refine aa_.q (cl_ _ hk _) ?_)
  | (refine aa_.call (cl_ _ hv _) ?_)
  | (refine aa_.q (cl_ _ hv _) ?_)
  | (refine aa_.call (dA_ _ hd _) ?_)
  | (refine aa_.q (dA_ _ hd _) ?_)
  | ((first|(apply aW_;assumption)|(apply aV_;assumption)|(apply bb_;assumption)|(apply be_;assumption));intro hb;try simp only[hb])
  | ((first|apply aB_|apply aC_)<;>intro hb<;>(try simp only[hb])<;>(first|have hp:=bx_ hb|have hp:=bw_ hb|have hp:=bu_ hb|have hp:=bv_ hb|skip)))
theorem is_(p:am_)(h:List Row):aa_ prog 116 [.agg (am_.cells p)] h (.val (.bool (decide (6<p.Keys.length)||decide (6<p.Kids.length)))):=by
 refine ar_ mixed Tryz.func116 zU_ rfl rfl ?_ h
 have q1:((p.Keys.length:Int)>6)=(6<p.Keys.length):=propext (by omega)
 have q2:((p.Kids.length:Int)>6)=(6<p.Kids.length):=propext (by omega)
 simp(disch:=omega)only[xg_,z6_,am_.cells,go_sem,seval]
 repeat' (first
  | exact ah_ _ _
  | (refine ai_ ?_;first|rfl|(simp only[*,Bool.and_true,Bool.true_and,Bool.and_false,Bool.false_and,Bool.or_true,Bool.true_or,Bool.or_false,Bool.false_or,Bool.not_true,Bool.not_false,decide_true,decide_false,Bool.and_self,Bool.or_self];done)|(simp[*];done))
  | simp(disch:=omega)only[q1,q2,go_sem,seval]
  | ((first|(apply bL_;assumption)|(apply bK_;assumption)|(apply b9_;assumption)|(apply b8_;assumption));intro hb;try simp only[hb])
  | ((first|(apply aW_;assumption)|(apply aV_;assumption)|(apply bb_;assumption)|(apply be_;assumption));intro hb;try simp only[hb])
  | ((first|apply aZ_|apply a7_|apply aB_|apply aC_)<;>intro hb<;>(try simp only[hb])<;>(first|have hp:=bx_ hb|have hp:=bw_ hb|have hp:=bu_ hb|have hp:=bv_ hb|skip)))
def aO_(st:c4_):Nat→Int
 | 0=>0
 | n+1=>if st (64-(n:Int))=none then 64-(n:Int)else aO_ st n
theorem ji_(b:af_)(hx:b.Slots.length≤1048576)(h:List Row):aa_ prog 118 [.agg (af_.cells b)] h (.val (.int .i64 (aO_ (aj_ b.Slots) 64))):=by
 refine ar_ mixed Tryz.func118 Ac_ rfl rfl ?_ h
 have hat:=fun id h=>fR_ b id hx h
 unfold af_.cells at hat
 simp(disch:=omega)only[xP_,AH_,af_.cells,go_sem,seval]
 refine aK_ (fun n t h=>∃k:Nat,t 1=.ptr 0 1 0 0∧t 3=.val (.int .i64 (64-(k:Int)+1))∧h[0]?=some ⟨.ty 28,2,[[.val (.int .i64 b.Root),.list 0 5 (b.Slots.map ab_.cells)]]⟩∧n=k∧k≤64∧aO_ (aj_ b.Slots) 64=aO_ (aj_ b.Slots) k) 64 ?_ ?_
 ·exact⟨64,rfl,rfl,rfl,rfl,Nat.le_refl _,rfl⟩
 ·rintro J hJ n t h ⟨k,t1,t3,o0,rfl,hk,hS⟩
  cases n with
  | zero =>
   have q:(64-((0:Nat):Int)+1≤64)=False:=eq_false (by omega)
   simp(disch:=first|omega|simp only[lzz0_];first|done|omega)only[go_sem,seval,t3]
   rw[hS]
   exact ah_ _ _
  | succ k =>
   have q:(64-((k+1:Nat):Int)+1≤64)=True:=eq_true (by omega)
   have q2:64-((k+1:Nat):Int)+1=64-(k:Int):=by omega
   simp(disch:=first|omega|simp only[lzz0_];first|done|omega)only[go_sem,seval,t1,t3,o0,q]
   refine aa_.call (hat _ _) ?_
   rw[q2]
   cases hs:aj_ b.Slots (64-(k:Int))with
   | none =>
    rw[pV_ hs]
    simp(disch:=first|omega|simp only[lzz0_];first|done|omega)only[go_sem,seval,t3,q2]
    rw[hS,aO_,if_pos hs]
    exact ah_ _ _
   | some p =>
    obtain⟨i,hi,e1,_⟩:=ij_ hs
    rw[e1]
    have q3:decide ((i:Int)<0)=false:=by rw[decide_eq_false_iff_not];omega
    simp(disch:=first|omega|simp only[lzz0_];first|done|omega)only[go_sem,seval,t3,q2,q3,au_]
    exact⟨k,by omega,hJ _ _ _ ⟨k,by simp[upd,t1],by simp[upd],o0,rfl,by omega,by rw[hS,aO_,if_neg (by rw[hs];simp)]⟩⟩
theorem fy_(xs:List ByteArray)(k:Nat)(x:ByteArray)(hx:xs.length≤1048576)(hk:k≤xs.length)(h:List Row):aa_ prog 69 [.list 0 1 (xs.map ag_),.val (.int .i64 k),.val (.string x)] h (.list 0 1 ((xs.take k++x::xs.drop k).map ag_)):=by
 refine ar_ mixed Tryz.func69 Cs_ rfl rfl ?_ h
 simp(disch:=omega)only[zK_,c69,go_sem,seval]
 repeat(refine And.intro (by first|(simp;omega)|(simp;done)|(intro e he;exact dQ_ xs e (mem_of_mem_take (mem_of_mem_drop he)))|(intro e he;exact dQ_ xs e (mem_of_mem_take he))|(intro e he;exact dQ_ xs e (mem_of_mem_drop he))) ?_)
 have e:List.take k (List.map ag_ xs)++[.val (.string x)]::List.drop k (List.take xs.length (List.map ag_ xs))=(xs.take k++x::xs.drop k).map ag_:=by
  rw[take_of_length_le (l:=List.map ag_ xs) (i:=xs.length) (by simp),map_append,map_cons,map_take,map_drop]
 rw[e]
 exact ec_ (r:=⟨.ty 9,1,(xs.take k++x::xs.drop k).map ag_⟩) rfl (by simp;omega) (eE_ _)
theorem ko_(xs:List Int)(k:Nat)(x:Int)(hx:xs.length≤1048576)(hk:k≤xs.length)(h:List Row):aa_ prog 119 [.list 0 1 (xs.map ay_),.val (.int .i64 k),.val (.int .i64 x)] h (.list 0 1 ((xs.take k++x::xs.drop k).map ay_)):=by
 refine ar_ mixed Tryz.func119 z4_ rfl rfl ?_ h
 simp(disch:=omega)only[xM_,Ah_,go_sem,seval]
 repeat(refine And.intro (by first|(simp;omega)|(simp;done)|(intro e he;exact dT_ xs e (mem_of_mem_take (mem_of_mem_drop he)))|(intro e he;exact dT_ xs e (mem_of_mem_take he))|(intro e he;exact dT_ xs e (mem_of_mem_drop he))) ?_)
 have e:List.take k (List.map ay_ xs)++[.val (.int .i64 x)]::List.drop k (List.take xs.length (List.map ay_ xs))=(xs.take k++x::xs.drop k).map ay_:=by
  rw[take_of_length_le (l:=List.map ay_ xs) (i:=xs.length) (by simp),map_append,map_cons,map_take,map_drop]
 rw[e]
 exact ec_ (r:=⟨.ty 2,1,(xs.take k++x::xs.drop k).map ay_⟩) rfl (by simp;omega) (f9_ _)
def a5_(p:am_):am_×am_×ByteArray :=
 if p.Leaf=true then(⟨true,p.Keys.take 3,p.Vals.take 3,[]⟩,⟨true,p.Keys.drop 3,p.Vals.drop 3,[]⟩,p.Keys.getD 3 ⟨#[]⟩)
 else(⟨false,p.Keys.take 2,[],p.Kids.take 3⟩,⟨false,p.Keys.drop 3,[],p.Kids.drop 3⟩,p.Keys.getD 2 ⟨#[]⟩)
theorem qs_{t:Nat→AV}{h:List Row}(a b s:Nat)(n m:Option Nat)(K:AV→List Row→Prop):cF_ [.cell a n,.cell b m,.tmp s] K .ret t h=match an_ t h (.load n (.tmp a))with|some x=>(match an_ t h (.load m (.tmp b))with|some y=>K (.tup [x,y,t s]) h|none=>False)|none=>False:=by
 simp only[cF_,do_,mapM_cons,mapM_nil]
 cases an_ t h (.load n (.tmp a))<;>cases an_ t h (.load m (.tmp b))<;>simp[cX_]
theorem mD_{cs ds:List AV}(h:∀S xs,ae_ S cs xs→ae_ S ds xs):∀(S:Sit) (x:Value),Rep S (.tup cs) x→Rep S (.tup ds) x:=by
 intro S x r
 simp only[Rep]at r⊢
 obtain⟨vs,e,q⟩:=r
 exact⟨vs,e,h S _ q⟩
theorem ic_(sz:Nat):∀(S:Sit) (x:Value),Rep S (.val (.slice none 0 0)) x→Rep S (.list 0 sz []) x:=by
 intro S x r
 simp only[Rep]at r
 subst r
 simp[Rep]
theorem l7_(p:am_)(hk:p.Keys.length≤1048576)(hv:p.Vals.length≤1048576)(hd:p.Kids.length≤1048576)(h1:p.Leaf=true→3<p.Keys.length∧3≤p.Vals.length)(h2:p.Leaf=false→3≤p.Keys.length∧3≤p.Kids.length)(h:List Row):aa_ prog 117 [.agg (am_.cells p)] h (.tup [.agg (am_.cells (a5_ p).1),.agg (am_.cells (a5_ p).2.1),.val (.string (a5_ p).2.2)]):=by
 have mk1:∀k,List.take k (p.Keys.map ag_)=(p.Keys.take k).map ag_:=fun k=>map_take.symm
 have mk2:∀k,List.drop k (p.Keys.map ag_)=(p.Keys.drop k).map ag_:=fun k=>map_drop.symm
 have mv1:∀k,List.take k (p.Vals.map ag_)=(p.Vals.take k).map ag_:=fun k=>map_take.symm
 have mv2:∀k,List.drop k (p.Vals.map ag_)=(p.Vals.drop k).map ag_:=fun k=>map_drop.symm
 have md1:∀k,List.take k (p.Kids.map ay_)=(p.Kids.take k).map ay_:=fun k=>map_take.symm
 have md2:∀k,List.drop k (p.Kids.map ay_)=(p.Kids.drop k).map ay_:=fun k=>map_drop.symm
 have tk:=take_length (l:=p.Keys)
 have tv:=take_length (l:=p.Vals)
 have td:=take_length (l:=p.Kids)
 cases hl:p.Leaf with
 | true =>
  obtain⟨a1,a2⟩:=h1 hl
  have key:aa_ prog 117 [.agg (am_.cells p)] h (.tup [.agg [.val (.bool true),.list 0 1 ((p.Keys.take 3).map ag_),.list 0 1 ((p.Vals.take 3).map ag_),.val (.slice none 0 0)],.agg [.val (.bool true),.list 0 1 ((p.Keys.drop 3).map ag_),.list 0 1 ((p.Vals.drop 3).map ag_),.val (.slice none 0 0)],.val (.string p.Keys[3])]):=by
   refine ar_ mixed Tryz.func117 uT_ rfl rfl ?_ h
   simp(disch:=omega)only[s0_,vg_,am_.cells,hl,go_sem,seval]
   repeat' (first
    | exact ah_ _ _
    | (exact⟨4,rfl⟩)
    | simp(disch:=omega)only[qs_,mk1,mk2,mv1,mv2,tk,tv,bR_,Option.map_some,ag_,go_sem,seval]
    | (refine aa_.call (cl_ _ (by simp;omega) _) ?_)
    | (refine aa_.q (cl_ _ (by simp;omega) _) ?_)
    | (refine aa_.call (dA_ _ (by simp;omega) _) ?_)
    | (refine aa_.q (dA_ _ (by simp;omega) _) ?_)
    | ((first|(apply aW_;assumption)|(apply aV_;assumption)|(apply bb_;assumption)|(apply be_;assumption));intro hb;try simp only[hb])
    | ((first|apply aB_|apply aC_)<;>intro hb<;>(try simp only[hb])<;>(first|have hp:=bx_ hb|have hp:=bw_ hb|have hp:=bu_ hb|have hp:=bv_ hb|skip)))
  refine fun K hK=>callSem.weaken (key _ ⟨_,mD_ (aT_ (hf_ (aT_ (bA_ _) (aT_ (bA_ _) (aT_ (bA_ _) (aT_ (ic_ 1) dM_))))) (aT_ (hf_ (aT_ (bA_ _) (aT_ (bA_ _) (aT_ (bA_ _) (aT_ (ic_ 1) dM_))))) (aT_ (bA_ _) dM_))),?_⟩)
  have e:p.Keys.getD 3 ⟨#[]⟩=p.Keys[3]:=by simp[a1]
  have e2:a5_ p=(⟨true,p.Keys.take 3,p.Vals.take 3,[]⟩,⟨true,p.Keys.drop 3,p.Vals.drop 3,[]⟩,p.Keys[3]):=by rw[a5_,if_pos hl,e]
  rw[e2]at hK
  exact hK
 | false =>
  obtain⟨a1,a2⟩:=h2 hl
  have a3:2<p.Keys.length:=by omega
  have key:aa_ prog 117 [.agg (am_.cells p)] h (.tup [.agg [.val (.bool false),.list 0 1 ((p.Keys.take 2).map ag_),.val (.slice none 0 0),.list 0 1 ((p.Kids.take 3).map ay_)],.agg [.val (.bool false),.list 0 1 ((p.Keys.drop 3).map ag_),.val (.slice none 0 0),.list 0 1 ((p.Kids.drop 3).map ay_)],.val (.string p.Keys[2])]):=by
   refine ar_ mixed Tryz.func117 uT_ rfl rfl ?_ h
   simp(disch:=omega)only[s0_,vg_,am_.cells,hl,go_sem,seval]
   repeat' (first
    | exact ah_ _ _
    | (exact⟨4,rfl⟩)
    | simp(disch:=omega)only[qs_,mk1,mk2,md1,md2,tk,td,bR_,Option.map_some,ag_,au_,go_sem,seval]
    | (refine aa_.call (cl_ _ (by simp;omega) _) ?_)
    | (refine aa_.q (cl_ _ (by simp;omega) _) ?_)
    | (refine aa_.call (dA_ _ (by simp;omega) _) ?_)
    | (refine aa_.q (dA_ _ (by simp;omega) _) ?_)
    | ((first|(apply aW_;assumption)|(apply aV_;assumption)|(apply bb_;assumption)|(apply be_;assumption));intro hb;try simp only[hb])
    | ((first|apply aB_|apply aC_)<;>intro hb<;>(try simp only[hb])<;>(first|have hp:=bx_ hb|have hp:=bw_ hb|have hp:=bu_ hb|have hp:=bv_ hb|skip)))
  refine fun K hK=>callSem.weaken (key _ ⟨_,mD_ (aT_ (hf_ (aT_ (bA_ _) (aT_ (bA_ _) (aT_ (ic_ 1) (aT_ (bA_ _) dM_))))) (aT_ (hf_ (aT_ (bA_ _) (aT_ (bA_ _) (aT_ (ic_ 1) (aT_ (bA_ _) dM_))))) (aT_ (bA_ _) dM_))),?_⟩)
  have e:p.Keys.getD 2 ⟨#[]⟩=p.Keys[2]:=by simp[a3]
  have e2:a5_ p=(⟨false,p.Keys.take 2,[],p.Kids.take 3⟩,⟨false,p.Keys.drop 3,[],p.Kids.drop 3⟩,p.Keys[2]):=by rw[a5_,if_neg (by simp[hl]),e]
  rw[e2]at hK
  exact hK
theorem p9_{xs:List ByteArray}{key:ByteArray}{k:Nat}(hk:k≤xs.length)(h1:∀j,j<k→∀hj:j<xs.length,bP_ xs[j] key=true)(h2:∀(h:k<xs.length),bP_ xs[k] key=false):lbK xs key=k :=
 zu_ hk (fun j hj=>h1 j hj (by omega)) h2
theorem ng_(p:am_)(key:ByteArray)(hx:p.Keys.length≤1048576)(h:List Row):aa_ prog 114 [.agg (am_.cells p),.val (.string key)] h (.tup [.val (.int .i64 (aI_ p key).1),.val (.bool (aI_ p key).2)]):=by
 refine ar_ mixed Tryz.func114 zp_ rfl rfl ?_ h
 simp(disch:=omega)only[xr_,zJ_,am_.cells,go_sem,seval]
 refine aK_ (fun n t h=>∃k:Nat,t 1=.val (.string key)∧t 2=.ptr 0 1 0 0∧t 6=.val (.int .i64 k)∧h[0]?=some ⟨.ty 77,4,[[.val (.bool p.Leaf),.list 0 1 (p.Keys.map ag_),.list 0 1 (p.Vals.map ag_),.list 0 1 (p.Kids.map ay_)]]⟩∧n=p.Keys.length-k∧k≤p.Keys.length∧∀j,j<k→∀hj:j<p.Keys.length,bP_ p.Keys[j] key=true) p.Keys.length ?_ ?_
 ·exact⟨0,rfl,rfl,rfl,rfl,rfl,Nat.zero_le _,fun j hj=>absurd hj (Nat.not_lt_zero j)⟩
 ·rintro J hJ n t h ⟨k,t1,t2,t6,o0,rfl,hk,hS⟩
  by_cases hlt:k<p.Keys.length
  ·cases hs:bP_ p.Keys[k] key with
   | true =>
    simp(disch:=first|omega|simp only[lzz0_];first|done|omega)only[go_sem,seval,t1,t2,t6,o0,hlt,hs,ag_,au_]
    refine⟨p.Keys.length-(k+1),by omega,hJ _ _ _ ⟨k+1,by simp[upd,t1],by simp[upd,t2],by simp[upd],o0,rfl,by omega,fun j hj hj2=>?_⟩⟩
    by_cases e:j=k
    ·subst e;exact hs
    ·exact hS j (by omega) hj2
   | false =>
    have hlb:=p9_ hk hS fun _=>hs
    have hf:dH_ p.Keys key=decide (p.Keys[k]=key):=by
     rw[dH_,hlb,getElem?_eq_getElem hlt,decide_eq_decide];simp
    cases hk2:decide (p.Keys[k]=key)with
    | false =>
     simp(disch:=first|omega|simp only[lzz0_];first|done|omega)only[go_sem,seval,t1,t2,t6,o0,hlt,hs,hk2,ag_]
     rw[aI_,hf,hk2,hlb,if_neg (by simp)]
     exact⟨2,rfl⟩
    | true =>
     cases hl:p.Leaf with
     | true =>
      rw[hl]at o0
      simp(disch:=first|omega|simp only[lzz0_];first|done|omega)only[go_sem,seval,t1,t2,t6,o0,hlt,hs,hk2,ag_]
      rw[aI_,hf,hk2,hlb,hl,if_neg (by simp)]
      exact⟨2,rfl⟩
     | false =>
      rw[hl]at o0
      simp(disch:=first|omega|simp only[lzz0_];first|done|omega)only[go_sem,seval,t1,t2,t6,o0,hlt,hs,hk2,ag_,au_]
      rw[aI_,hf,hk2,hlb,hl,if_pos (by simp)]
      exact⟨2,rfl⟩
  ·have hlb:=p9_ hk hS fun h=>absurd h hlt
   have hf:dH_ p.Keys key=false:=by
    rw[dH_,hlb,getElem?_eq_none (by omega)];rfl
   simp(disch:=first|omega|simp only[lzz0_];first|done|omega)only[go_sem,seval,t2,t6,o0,hlt]
   rw[aI_,hf,hlb,if_neg (by simp)]
   exact⟨2,rfl⟩
structure aM_ where
 id:Int
 a:AV
 b:AV
 c:AV
 d:AV
def aM_.cells(s:aM_):List AV:=[.val (.int .i64 s.id),s.a,s.b,s.c,s.d]
def b3_(p:aM_):Bool→List aM_→List aM_
 | dn,[]=>if dn=true then []else [p]
 | dn,e::r=>(if(!dn&&decide (e.id≥p.id))=true then [p]else [])++((if decide (e.id=p.id)=true then []else [e])++b3_ p (dn||decide (e.id≥p.id)) r)
theorem jA_(p:aM_):∀(dn:Bool) (l:List aM_),(b3_ p dn l).length≤l.length+1
 | true,[]=>by simp[b3_]
 | false,[]=>by simp[b3_]
 | true,e::r=>by
  have:=jA_ p true r
  simp only[b3_,Bool.not_true,Bool.false_and,Bool.false_eq_true,if_false,Bool.true_or,nil_append,la_,lc_]
  split<;>simp<;>omega
 | false,e::r=>by
  have h1:=jA_ p true r
  have h2:=jA_ p false r
  have h3:∀r,(b3_ p true r).length≤r.length:=by
   intro r
   induction r with
   | nil=>simp[b3_]
   | cons x r ih =>
    simp only[b3_,Bool.not_true,Bool.false_and,Bool.false_eq_true,if_false,Bool.true_or,nil_append,la_,lc_]
    split<;>simp<;>omega
  have h4:=h3 r
  simp only[b3_,Bool.not_false,Bool.true_and,Bool.false_or,la_,lc_]
  cases decide (e.id≥p.id)
  ·simp only[Bool.false_eq_true,if_false]
   split<;>simp<;>omega
  ·simp only[if_true]
   split<;>simp<;>omega
def aM_.ofG(s:ab_):aM_:=⟨s.Id,.val (.bool s.Page.Leaf),.list 0 1 (s.Page.Keys.map ag_),.list 0 1 (s.Page.Vals.map ag_),.list 0 1 (s.Page.Kids.map ay_)⟩
def c70:LC :=
 .q [.o [.bx 5 77 2],.o [.s 9 (.buildSlice 79 5 z2z 0 []),.m 6 9],.o [.f 7],.q [.o [.ki 8 0],.block 0 (.loop (.q [.q [.o [.m 10 8,.m 11 0,.nc 12 11,.fa 13 1 12,.ln 14 13,.ll 15 14,.bb 16 .lss false 10 15],.k
 16 .skip (.exit 0)],.block 1 (.q [.q [.o [.m 19 7,.nt 20 19,.m 21 20,.gm 22 21 true 0,.g 23 21 true (.nilCheck (.tmp 22)),.gf 24 21 true 1 23,.gn 25 21 true 24,.gm 26 21 true 8,.g 27 21 true (.indexAddr 5 (.tmp
 25) (.tmp 26)),.gf 28 21 true 0 27,.gn 29 21 true 28,.gm 30 21 true 1,.g 31 21 true (.bin .geq false (.tmp 29) (.tmp 30)),.pf 32 21 31],.k 32 (.q [.o [.m 33 6,.m 34 1,.ld 35 4 5,.s 36 (.build z2z [(0,1),(1,
 4)] [(0,.tmp 34),(1,.tmp 35)]),.s 37 (.buildSlice 79 5 z2z 1 [(0,.tmp 36)]),.ap 38 79 5 88 33 37,.m 6 38],.o [.t 7]]) .skip],.o [.m 39 0,.nc 40 39,.fa 41 1 40,.ln 42 41,.m 43 8,.ia 44 5 42 43,.fa 45 0 44,
 .ln 46 45,.m 47 1,.bb 48 .neq false 46 47],.k 48 (.o [.m 49 6,.m 50 0,.nc 51 50,.fa 52 1 51,.ln 53 52,.m 54 8,.ia 55 5 53 54,.ld 56 5 55,.s 57 (.buildSlice 79 5 z2z 1 [(0,.tmp 56)]),.ap 58 79 5 88 49 57,.m
 6 58]) .skip]),.o [.m 17 8,.bk 18 .add false 17 1,.m 8 18]]))],.q [.o [.m 59 7,.nt 60 59],.k 60 (.o [.m 61 6,.m 62 1,.ld 63 4 5,.s 64 (.build z2z [(0,1),(1,4)] [(0,.tmp 62),(1,.tmp 63)]),.s 65
 (.buildSlice 79 5 z2z 1 [(0,.tmp 64)]),.ap 66 79 5 88 61 65,.m 6 66]) .skip],.o [.m 67 0,.m 68 6,.nc 69 67,.fa 70 1 69,.st 1 70 68]]
def AR_:LF:=⟨3,71,c70,[]⟩
theorem Ct_:aA_ Tryz.prog Tryz.f70 AR_:=as_
set_option maxHeartbeats 2000000 in
theorem gc_(L:Nat)(root:Int)(sl:List ab_)(hes:sl.length≤1000000)(p:aM_)(hc:p.cells.all AV.cell=true)(h:List Row)(hL:h[L]?=some ⟨.ty 28,2,[[.val (.int .i64 root),.list 0 5 (sl.map ab_.cells)]]⟩)(K:AV→List Row→Prop)
 (hK:∀H' R,h.length≤R→(∀l,l<h.length→l≠L→H'[l]?=h[l]?)→h.length≤H'.length→H'[L]?=some ⟨.ty 28,2,[[.val (.int .i64 root),.own R (b3_ p false (sl.map aM_.ofG)).length]]⟩→H'[R]?=some ⟨.ty 79,5,(b3_ p false (sl.map aM_.ofG)).map aM_.cells⟩→K (.tup []) H') :
 callSem Tryz.prog 70 [.ptr L 1 0 0,.val (.int .i64 p.id),.agg [p.a,p.b,p.c,p.d]] h K:=by
 refine aF_ mixed Tryz.func70 Ct_ (a9_ rfl ?_)
 have lL:=(List.getElem?_eq_some_iff.1 hL).1
 obtain⟨id,a,b,c,d⟩:=p
 have hc5:[.val (.int .i64 id),a,b,c,d].all AV.cell=true:=hc
 have hc4:[a,b,c,d].all AV.cell=true:=by
  simp only[all_cons,all_nil,Bool.and_true,Bool.and_eq_true]at hc5⊢
  exact hc5.2
 simp(disch:=omega)only[AR_,c70,hc4,go_sem,seval]
 refine aK_ (fun n t H=>∃(k:Nat) (dn:Bool) (out:List aM_),t 0=.ptr L 1 0 0∧t 1=.val (.int .i64 id)∧t 5=.ptr h.length 1 0 0∧t 6=.own (h.length+1) out.length∧t 7=.val (.bool dn)∧t 8=.val (.int .i64 k)∧n=sl.length-k∧k≤sl.length∧out.length≤k+(if dn=true then 1 else 0) ∧
  (∀l,l<h.length→H[l]?=h[l]?)∧h.length+2≤H.length∧H[h.length]?=some ⟨.ty 77,4,[[a,b,c,d]]⟩∧H[h.length+1]?=some ⟨.ty 79,5,out.map aM_.cells⟩∧b3_ ⟨id,a,b,c,d⟩ false (sl.map aM_.ofG)=out++b3_ ⟨id,a,b,c,d⟩ dn ((sl.drop k).map aM_.ofG)) sl.length ?_ ?_
 ·refine⟨0,false,[],rfl,rfl,rfl,rfl,rfl,rfl,rfl,Nat.zero_le _,Nat.zero_le _,fun l hl=>getElem?_append_left hl,by simp,?_,?_,rfl⟩
  ·rw[getElem?_append_right (Nat.le_refl _),Nat.sub_self];rfl
  ·rw[getElem?_append_right (by omega),Nat.add_sub_cancel_left];rfl
 ·rintro J hJ n t H ⟨k,dn,out,t0,t1,t5,t6,t7,t8,rfl,hk,hol,hkp,hlen,hB,hR,hS⟩
  have hLL:=(hkp L lL).trans hL
  by_cases hlt:k<sl.length
  ·rw[drop_eq_getElem_cons hlt,map_cons,b3_]at hS
   have hide:(aM_.ofG sl[k]).id=sl[k].Id:=rfl
   rw[hide]at hS
   cases dn<;>cases hge:decide (sl[k].Id≥id)<;>cases heq:decide (sl[k].Id=id)<;>(
    simp only[hge,heq,Bool.not_true,Bool.not_false,Bool.true_and,Bool.false_and,Bool.true_or,Bool.false_or,Bool.false_eq_true,if_true,if_false,nil_append]at hS hol
    simp(disch:=first|omega|simp only[lzz0_];first|done|omega)only[ao_,aq_,ad_,at_,ls_,go_sem,seval,t0,t1,t5,t6,t7,t8,hLL,hB,hR,hlt,hge,heq,ab_.cells,au_,bR_,Option.map_some,hc4,hc5]
    repeat(refine And.intro (by omega) ?_))
   ·exact⟨sl.length-(k+1),by omega,hJ _ _ _ ⟨k+1,false,out++[aM_.ofG sl[k]],by simp[upd,t0],by simp[upd,t1],by simp[upd,t5],by simp[upd],by simp[upd,t7],by simp[upd],rfl,by omega,by simp;omega,
     fun l hl=>by(simp(disch:=(first|omega|(simp only[ls_,la_,lc_,ln_];omega)))only[ao_,ad_]);exact hkp l hl,by(simp only[ls_,la_,lc_,ln_]);omega,by(simp(disch:=(first|omega|(simp only[ls_,la_,lc_,ln_];omega)))only[ao_,ad_]);exact hB,by(simp(disch:=(first|omega|(simp only[ls_,la_,lc_,ln_];omega)))only[aq_];simp[aM_.cells,aM_.ofG]),by rw[hS];simp⟩⟩
   ·exact⟨sl.length-(k+1),by omega,hJ _ _ _ ⟨k+1,false,out++[],by simp[upd,t0],by simp[upd,t1],by simp[upd,t5],by simp[upd,t6],by simp[upd,t7],by simp[upd],rfl,by omega,by simp;omega,
     fun l hl=>by(skip);exact hkp l hl,by(skip);omega,by(skip);exact hB,by(simpa using hR),by rw[hS];simp⟩⟩
   ·exact⟨sl.length-(k+1),by omega,hJ _ _ _ ⟨k+1,true,out++[⟨id,a,b,c,d⟩,aM_.ofG sl[k]],by simp[upd,t0],by simp[upd,t1],by simp[upd,t5],by simp[upd],by simp[upd],by simp[upd],rfl,by omega,by simp;omega,
     fun l hl=>by(simp(disch:=(first|omega|(simp only[ls_,la_,lc_,ln_];omega)))only[ao_,ad_]);exact hkp l hl,by(simp only[ls_,la_,lc_,ln_]);omega,by(simp(disch:=(first|omega|(simp only[ls_,la_,lc_,ln_];omega)))only[ao_,ad_]);exact hB,by(simp(disch:=(first|omega|(simp only[ls_,la_,lc_,ln_];omega)))only[aq_];simp[aM_.cells,aM_.ofG]),by rw[hS];simp⟩⟩
   ·exact⟨sl.length-(k+1),by omega,hJ _ _ _ ⟨k+1,true,out++[⟨id,a,b,c,d⟩],by simp[upd,t0],by simp[upd,t1],by simp[upd,t5],by simp[upd],by simp[upd],by simp[upd],rfl,by omega,by simp;omega,
     fun l hl=>by(simp(disch:=(first|omega|(simp only[ls_,la_,lc_,ln_];omega)))only[ao_,ad_]);exact hkp l hl,by(simp only[ls_,la_,lc_,ln_]);omega,by(simp(disch:=(first|omega|(simp only[ls_,la_,lc_,ln_];omega)))only[ao_,ad_]);exact hB,by(simp(disch:=(first|omega|(simp only[ls_,la_,lc_,ln_];omega)))only[aq_];simp[aM_.cells]),by rw[hS];simp⟩⟩
   ·exact⟨sl.length-(k+1),by omega,hJ _ _ _ ⟨k+1,true,out++[aM_.ofG sl[k]],by simp[upd,t0],by simp[upd,t1],by simp[upd,t5],by simp[upd],by simp[upd,t7],by simp[upd],rfl,by omega,by simp;omega,
     fun l hl=>by(simp(disch:=(first|omega|(simp only[ls_,la_,lc_,ln_];omega)))only[ao_,ad_]);exact hkp l hl,by(simp only[ls_,la_,lc_,ln_]);omega,by(simp(disch:=(first|omega|(simp only[ls_,la_,lc_,ln_];omega)))only[ao_,ad_]);exact hB,by(simp(disch:=(first|omega|(simp only[ls_,la_,lc_,ln_];omega)))only[aq_];simp[aM_.cells,aM_.ofG]),by rw[hS];simp⟩⟩
   ·exact⟨sl.length-(k+1),by omega,hJ _ _ _ ⟨k+1,true,out++[],by simp[upd,t0],by simp[upd,t1],by simp[upd,t5],by simp[upd,t6],by simp[upd,t7],by simp[upd],rfl,by omega,by simp;omega,
     fun l hl=>by(skip);exact hkp l hl,by(skip);omega,by(skip);exact hB,by(simpa using hR),by rw[hS];simp⟩⟩
   ·exact⟨sl.length-(k+1),by omega,hJ _ _ _ ⟨k+1,true,out++[aM_.ofG sl[k]],by simp[upd,t0],by simp[upd,t1],by simp[upd,t5],by simp[upd],by simp[upd,t7],by simp[upd],rfl,by omega,by simp;omega,
     fun l hl=>by(simp(disch:=(first|omega|(simp only[ls_,la_,lc_,ln_];omega)))only[ao_,ad_]);exact hkp l hl,by(simp only[ls_,la_,lc_,ln_]);omega,by(simp(disch:=(first|omega|(simp only[ls_,la_,lc_,ln_];omega)))only[ao_,ad_]);exact hB,by(simp(disch:=(first|omega|(simp only[ls_,la_,lc_,ln_];omega)))only[aq_];simp[aM_.cells,aM_.ofG]),by rw[hS];simp⟩⟩
   ·exact⟨sl.length-(k+1),by omega,hJ _ _ _ ⟨k+1,true,out++[],by simp[upd,t0],by simp[upd,t1],by simp[upd,t5],by simp[upd,t6],by simp[upd,t7],by simp[upd],rfl,by omega,by simp;omega,
     fun l hl=>by(skip);exact hkp l hl,by(skip);omega,by(skip);exact hB,by(simpa using hR),by rw[hS];simp⟩⟩
  ·rw[drop_eq_nil_of_le (by omega),map_nil]at hS
   cases dn with
   | true =>
    simp only[b3_,if_true,append_nil]at hS
    simp(disch:=first|omega|simp only[lzz0_];first|done|omega)only[go_sem,seval,t0,t6,t7,t8,hLL,hlt]
    refine⟨[],rfl,hK _ (h.length+1) (by omega) (fun l hl hne=>by(simp(disch:=(first|omega|(simp only[ls_,la_,lc_,ln_];omega)))only[ao_]);exact hkp l hl) (by rw[ls_];omega) (by(simp(disch:=(first|omega|(simp only[ls_,la_,lc_,ln_];omega)))only[aq_]);rw[hS]) (by(simp(disch:=(first|omega|(simp only[ls_,la_,lc_,ln_];omega)))only[ao_]);rw[hS];exact hR)⟩
   | false =>
    simp only[b3_,Bool.false_eq_true,if_false]at hS
    simp(disch:=first|omega|simp only[lzz0_];first|done|omega)only[ao_,ad_,at_,go_sem,seval,t0,t1,t5,t6,t7,t8,hLL,hB,hR,hlt,bR_,Option.map_some,hc4,hc5]
    have hol2:out.length≤k:=by simpa using hol
    refine⟨by omega,by omega,[],rfl,hK _ (h.length+1) (by omega) (fun l hl hne=>by(simp(disch:=(first|omega|(simp only[ls_,la_,lc_,ln_];omega)))only[ao_,ad_]);exact hkp l hl) (by simp only[ls_,la_,lc_,ln_];omega) (by(simp(disch:=(first|omega|(simp only[ls_,la_,lc_,ln_];omega)))only[aq_]);rw[hS,la_];rfl) (by(simp(disch:=(first|omega|(simp only[ls_,la_,lc_,ln_];omega)))only[ao_,aq_]);rw[hS];simp[aM_.cells])⟩
def ax_(s:ab_):Bool→List ab_→List ab_
 | dn,[]=>if dn=true then []else [s]
 | dn,e::r=>(if(!dn&&decide (e.Id≥s.Id))=true then [s]else [])++((if decide (e.Id=s.Id)=true then []else [e])++ax_ s (dn||decide (e.Id≥s.Id)) r)
theorem ih_(s:ab_):∀(dn:Bool) (l:List ab_),b3_ (aM_.ofG s) dn (l.map aM_.ofG)=(ax_ s dn l).map aM_.ofG
 | dn,[]=>by
  simp only[b3_,ax_,map_nil]
  split<;>rfl
 | dn,e::r=>by
  have h1:(aM_.ofG e).id=e.Id:=rfl
  have h2:(aM_.ofG s).id=s.Id:=rfl
  simp only[b3_,ax_,map_cons,map_append,h1,h2,ih_ s _ r]
  congr 1
  ·split<;>rfl
  ·congr 1
   split<;>rfl
theorem jP_(s:ab_)(l:List ab_):(b3_ (aM_.ofG s) false (l.map aM_.ofG)).map aM_.cells=(ax_ s false l).map ab_.cells:=by
 rw[ih_,map_map]
 rfl
theorem oT_{b n:Nat}{h:List Row}{a:AV}(hf:a.flat=true):cz_ b h (n+1) a=some a:=by
 cases a<;>first|rfl|(simp[AV.flat]at hf)
theorem ll_{b n:Nat}{h:List Row}:∀{cs:List AV},cs.all AV.flat=true→cs.mapM (cz_ b h (n+1))=some cs
 | [],_=>rfl
 | c::cs,hc=>by
  rw[all_cons,Bool.and_eq_true]at hc
  rw[mapM_cons,oT_ hc.1,ll_ hc.2];rfl
theorem nA_{b n:Nat}{h:List Row}:∀{es:List (List AV)},(∀e∈es,e.all AV.flat=true)→(es.mapM fun(e:List AV)=>e.mapM (cz_ b h (n+1)))=some es
 | [],_=>rfl
 | e::es,hc=>by
  rw[mapM_cons,ll_ (hc e (mem_cons_self)),nA_ fun x hx=>hc x (mem_cons_of_mem _ hx)];rfl
theorem mh_{b l k n:Nat}{h:List Row}{r:Row}(hb:b≤l)(hl:h[l]?=some r)(hk:r.es.length=k)(hf:∀e∈r.es,e.all AV.flat=true):cz_ b h (n+2) (.own l k)=some (.list 0 r.sz r.es):=by
 have e:cz_ b h (n+2) (.own l k)=match h[l]? with
  | some r=>if b≤l∧r.es.length=k then(r.es.mapM fun(e:List AV)=>e.mapM (cz_ b h (n+1))).map (.list 0 r.sz)else none
  | none=>none:=rfl
 rw[e,hl]
 simp only[hb,hk,and_self,if_true]
 rw[nA_ hf];rfl
theorem lS_(sl:List ab_):∀e∈sl.map ab_.cells,e.all AV.flat=true:=by
 intro e he
 obtain⟨x,_,q⟩:=mem_map.1 he;subst q;rfl
theorem eR_(L:Nat)(root:Int)(sl:List ab_)(hes:sl.length≤1000000)(s:ab_)(h:List Row)(hL:h[L]?=some ⟨.ty 28,2,[[.val (.int .i64 root),.list 0 5 (sl.map ab_.cells)]]⟩)(K:AV→List Row→Prop)
 (hK:∀H',H'.length=h.length→(∀l,l≠L→H'[l]?=h[l]?)→H'[L]?=some ⟨.ty 28,2,[[.val (.int .i64 root),.list 0 5 ((ax_ s false sl).map ab_.cells)]]⟩→K (.tup []) H') :
 callSem Tryz.prog 70 [.ptr L 1 0 0,.val (.int .i64 s.Id),.agg (am_.cells s.Page)] h K:=by
 have lL:=(List.getElem?_eq_some_iff.1 hL).1
 refine o8_ (gc_ L root sl hes (aM_.ofG s) rfl h hL _ ?_)
 intro H' R hR hkp hlen hbox hrow
 rw[jP_]at hrow
 have hn:(b3_ (aM_.ofG s) false (sl.map aM_.ofG)).length=(ax_ s false sl).length:=by rw[ih_,length_map]
 rw[hn]at hbox
 refine⟨4,.tup [],h.set L ⟨.ty 28,2,[[.val (.int .i64 root),.list 0 5 ((ax_ s false sl).map ab_.cells)]]⟩,rfl,by simp,fun l hl=>?_,hK _ (by simp) (fun l hne=>getElem?_set_ne (Ne.symm hne)) (getElem?_set_self lL)⟩
 by_cases e:l=L
 ·subst e
  refine .inr ⟨_,28,[[.val (.int .i64 root),.list 0 5 ((ax_ s false sl).map ab_.cells)]],hbox,rfl,?_,getElem?_set_self lL⟩
  have e1:cz_ h.length H' 4 (.own R (ax_ s false sl).length)=some (.list 0 5 ((ax_ s false sl).map ab_.cells)):=mh_ hR hrow (by simp) (lS_ _)
  show List.mapM (fun e=>List.mapM (cz_ h.length H' 4) e) [[AV.val (.int .i64 root),.own R (ax_ s false sl).length]]=_
  rw[mapM_cons,mapM_cons,mapM_cons,e1]
  rfl
 ·exact .inl ⟨hkp l hl e,getElem?_set_ne (Ne.symm e)⟩
def c65:LC :=
 .q [.o [.bx 1 28 0,.s 2 (.alloc 28 z1z)],.o [.fa 5 0 1,.ln 6 5,.s 7 (.build z1z [(0,1),(1,1)] [(0,.tmp 6)]),.s 3 (.alloc 28 z1z),.st 2 3 7],.q [.o [.ki 4 0],.block 0 (.ghost (.loop (.q [.q [.o [.m 8 4,.fa 9
 1 1,.ln 10 9,.ll 11 10,.bb 12 .lss false 8 11],.k 12 .skip (.exit 0)],.block 1 (.gops [.fa 15 1 3,.ln 16 15,.fa 17 1 1,.ln 18 17,.m 19 4,.ia 20 5 18 19,.fa 21 0 20,.ln 22 21,.fa 23 1 1,.ln 24 23,.m 25 4,
 .ia 26 5 24 25,.fa 27 1 26,.ld 28 4 27] [(.c1 29 67 28,[.fa 15 1 3,.ln 16 15,.fa 17 1 1,.ln 18 17,.m 19 4,.ia 20 5 18 19,.fa 21 0 20,.ln 22 21]),(.s 30 (.build z2z [(0,1),(1,4)] [(0,.tmp 22),(1,.tmp
 29)]),[.fa 15 1 3,.ln 16 15]),(.s 31 (.buildSlice 79 5 z2z 1 [(0,.tmp 30)]),[.fa 15 1 3,.ln 16 15]),(.ap 32 79 5 88 16 31,[]),(.fa 33 1 3,[]),(.st 1 33 32,[])]),.o [.m 13 4,.bk 14 .add false 13 1,.m 4
 14]])))],.o [.ld 34 2 3,.st 2 2 34],.ret]
def Bw_:LF:=⟨1,35,c65,[.cell 2 (some 2)]⟩
theorem CT_:aA_ Tryz.prog Tryz.f65 Bw_:=as_
def c66:LC :=
 .q [.o [.bx 2 28 0,.nl 4,.f 5],.o [.s 11 (.buildSlice 107 2 z3z 0 []),.m 6 11],.o [.fa 12 0 2,.ln 13 12,.m 7 13],.block 0 (.ghost (.loop (.block 1 (.q [.o [.ld 14 2 2,.m 15 7,.c2 16 68 14 15,.s 8 (.alloc 77
 z0z),.st 4 8 16],.o [.ld 18 4 8,.m 19 1,.c2 20 114 18 19,.m 17 20,.ex 21 17 0,.ex 22 17 1,.m 9 21,.m 10 22],.o [.m 23 6,.m 24 7,.m 25 9,.s 26 (.build z3z [(0,1),(1,1)] [(0,.tmp 24),(1,.tmp 25)]),.s 27
 (.buildSlice 107 2 z3z 1 [(0,.tmp 26)]),.ap 28 107 2 16 23 27,.m 6 28],.q [.o [.fa 29 0 8,.ln 30 29],.k 30 (.q [.o [.m 31 6,.m 32 10,.m 4 31,.m 5 32],.ret]) .skip],.o [.fa 33 3 8,.ln 34 33,.m 35 9,.ia 36 1
 34 35,.ln 37 36,.m 7 37]]))))]
def Cb_:LF:=⟨2,38,c66,[.tmp 4,.tmp 5]⟩
theorem CS_:aA_ Tryz.prog Tryz.f66 Cb_:=as_
theorem og_(b:af_)(hx:b.Slots.length≤1000000)(hsm:∀s∈b.Slots,smallP s.Page)(h:List Row):aa_ Tryz.prog 65 [.agg (af_.cells b)] h (.agg (af_.cells b)):=by
 refine ar_ mixed Tryz.func65 CT_ rfl rfl ?_ h
 simp(disch:=omega)only[Bw_,c65,af_.cells,bR_,Option.map_some,go_sem,seval]
 refine kO_ _ (fun t=>mp_ (L:=2) [.val (.int .i64 b.Root)] [] 79 5 rfl) ?_
 refine aK_ (fun n t H=>∃k:Nat,t 1=.ptr 0 1 0 0∧t 2=.ptr 1 1 0 0∧t 3=.ptr 2 1 0 0∧t 4=.val (.int .i64 k)∧n=b.Slots.length-k∧k≤b.Slots.length∧4≤H.length∧H[0]?=some ⟨.ty 28,2,[[.val (.int .i64 b.Root),.list 0 5 (b.Slots.map ab_.cells)]]⟩∧H[1]?=some ⟨.ty 28,2,[[.val (.int .i64 0),.val (.slice none 0 0)]]⟩∧H[2]?=some ⟨.ty 28,2,[[.val (.int .i64 b.Root),.own 3 k]]⟩∧H[3]?=some ⟨.ty 79,5,(b.Slots.take k).map ab_.cells⟩) b.Slots.length ?_ ?_
 ·exact⟨0,rfl,rfl,rfl,rfl,rfl,Nat.zero_le _,Nat.le_refl _,rfl,rfl,rfl,rfl⟩
 ·rintro J hJ n t H ⟨k,t1,t2,t3,t4,rfl,hk,hlen,o0,o1,o2,o3⟩
  by_cases hlt:k<b.Slots.length
  ·obtain⟨z1,z2,z3⟩:=hsm _ (getElem_mem hlt)
   simp(disch:=first|omega|simp only[lzz0_];first|done|omega)only[go_sem,seval,t1,t3,t4,o0,o2,hlt,ab_.cells]
   refine aa_.call (e2_ b.Slots[k].Page z1 z2 z3 _) ?_
   simp(disch:=first|omega|simp only[lzz0_];first|done|omega)only[ao_,ad_,at_,go_sem,seval,t1,t3,t4,o0,o2,o3,ab_.cells,am_.cells,bR_,Option.map_some,au_]
   refine⟨by simp;omega,by omega,by omega,?_⟩
   exact⟨b.Slots.length-(k+1),by omega,hJ _ _ _ ⟨k+1,by simp[upd,t1],by simp[upd,t2],by simp[upd,t3],by simp[upd],rfl,by omega,by simp;omega,by(simp(disch:=(first|omega|(simp only[ls_,la_,lc_,ln_];omega)))only[ao_,ad_]);exact o0,by(simp(disch:=(first|omega|(simp only[ls_,la_,lc_,ln_];omega)))only[ao_,ad_]);exact o1,by(simp(disch:=(first|omega|(simp only[ls_,la_,lc_,ln_];omega)))only[aq_]),by(simp(disch:=(first|omega|(simp only[ls_,la_,lc_,ln_];omega)))only[ao_,aq_]);rw[take_succ_eq_append_getElem hlt,map_append];rfl⟩⟩
  ·simp(disch:=first|omega|simp only[lzz0_];first|done|omega)only[aq_,go_sem,seval,t1,t2,t3,t4,o0,o1,o2,hlt]
   have hkk:k=b.Slots.length:=by omega
   subst hkk
   rw[take_length]at o3
   have e1:AW.resolve (H.set 1 ⟨.ty 28,2,[[.val (.int .i64 b.Root),.own 3 b.Slots.length]]⟩) 4 (.own 3 b.Slots.length)=some (.list 0 5 (b.Slots.map ab_.cells)):=f3_ (n:=2) (r:=⟨.ty 79,5,b.Slots.map ab_.cells⟩) (by rw[getElem?_set_ne (by omega)];exact o3) (by simp) (lS_ _)
   refine⟨5,?_⟩
   show(List.mapM (AW.resolve _ 4) [AV.val (.int .i64 b.Root),.own 3 b.Slots.length]).map AV.agg=_
   rw[mapM_cons,mapM_cons,e1]
   rfl
def lE_(st:c4_)(key:ByteArray):Nat→Int→Prop
 | 0,_=>False
 | n+1,id=>∃p,st id=some p∧p.Keys.length≤1048576∧(p.Leaf=true∨∃hk:(aI_ p key).1<p.Kids.length,lE_ st key n p.Kids[(aI_ p key).1])
def cA_(st:c4_)(key:ByteArray):Nat→Int→List (Int×Nat)×Bool
 | 0,_=>([],false)
 | n+1,id=>match st id with
  | none=>([],false)
  | some p=>if p.Leaf=true then([(id,(aI_ p key).1)],(aI_ p key).2)else((id,(aI_ p key).1)::(cA_ st key n (p.Kids.getD (aI_ p key).1 0)).1,(cA_ st key n (p.Kids.getD (aI_ p key).1 0)).2)
def d3_(s:Int×Nat):List AV:=[.val (.int .i64 s.1),.val (.int .i64 s.2)]
theorem s3_(l:List (Int×Nat)):∀e∈l.map d3_,e.all AV.flat=true:=by
 intro e he
 obtain⟨x,_,q⟩:=mem_map.1 he;subst q;rfl
theorem n3_(b:af_)(key:ByteArray)(n:Nat)(hn:n≤1000)(hx:b.Slots.length≤1048576)(hw:lE_ (aj_ b.Slots) key n b.Root)(h:List Row):aa_ Tryz.prog 66 [.agg (af_.cells b),.val (.string key)] h (.tup [.list 0 2 ((cA_ (aj_ b.Slots) key n b.Root).1.map d3_),.val (.bool (cA_ (aj_ b.Slots) key n b.Root).2)]):=by
 refine ar_ mixed Tryz.func66 CS_ rfl rfl ?_ h
 have hpg:=fun id p hp h=>eT_ b id p hx hp h
 unfold af_.cells at hpg
 simp(disch:=omega)only[Cb_,c66,af_.cells,go_sem,seval]
 refine bB_ _ _ b0_ ?_
 refine aK_ (fun m t H=>∃(id:Int) (out:List (Int×Nat)),t 1=.val (.string key)∧t 2=.ptr 0 1 0 0∧t 6=.own 1 out.length∧t 7=.val (.int .i64 id)∧lE_ (aj_ b.Slots) key m id∧out.length+m=n∧2≤H.length∧H[0]?=some ⟨.ty 28,2,[[.val (.int .i64 b.Root),.list 0 5 (b.Slots.map ab_.cells)]]⟩∧H[1]?=some ⟨.ty 107,2,out.map d3_⟩ ∧
  cA_ (aj_ b.Slots) key n b.Root=(out++(cA_ (aj_ b.Slots) key m id).1,(cA_ (aj_ b.Slots) key m id).2)) n ?_ ?_
 ·exact⟨b.Root,[],rfl,rfl,rfl,rfl,hw,by simp,Nat.le_refl _,rfl,rfl,by simp⟩
 ·rintro J hJ m t H ⟨id,out,t1,t2,t6,t7,hok,hom,hlen,o0,o1,hS⟩
  cases m with
  | zero=>exact absurd hok (by simp[lE_])
  | succ m =>
   obtain⟨p,hp,hkl,hr⟩:=hok
   simp(disch:=first|omega|simp only[lzz0_];first|done|omega)only[go_sem,seval,t2,t7,o0]
   refine aa_.call (hpg id p hp _) ?_
   have hfd:=ng_ p key hkl
   unfold am_.cells at hfd
   simp(disch:=first|omega|simp only[lzz0_];first|done|omega)only[at_,go_sem,seval,t1,am_.cells]
   refine aa_.call (hfd _) ?_
   have hlen1:out.length≤1000:=by omega
   cases hl:p.Leaf with
   | true =>
    have hw1:cA_ (aj_ b.Slots) key (m+1) id=([(id,(aI_ p key).1)],(aI_ p key).2):=by rw[cA_,hp];simp[hl]
    rw[hw1]at hS
    simp(disch:=first|omega|simp only[lzz0_];first|done|omega)only[ao_,ad_,at_,a0_,go_sem,seval,t6,t7,o1,bR_,Option.map_some]
    refine⟨by omega,by omega,5,?_⟩
    rw[hS]
    have eo:out.map d3_++[[AV.val (.int .i64 id),AV.val (.int .i64 ((aI_ p key).1:Nat))]]=(out++[(id,(aI_ p key).1)]).map d3_:=by rw[map_append];rfl
    rw[eo]
    show(List.mapM (AW.resolve _ 4) [AV.own 1 (out.length+1),.val (.bool (aI_ p key).2)]).map AV.tup=_
    rw[mapM_cons,mapM_cons,f3_ (n:=2) (r:=⟨.ty 107,2,(out++[(id,(aI_ p key).1)]).map d3_⟩) (getElem?_set_self (by simp only[la_,lc_];omega)) (by simp) (s3_ _)]
    rfl
   | false =>
    obtain⟨hk,hok2⟩:=hr.resolve_left (by simp[hl])
    have hk1:p.Kids[(aI_ p key).1]?=some p.Kids[(aI_ p key).1]:=getElem?_eq_getElem hk
    have hgd:p.Kids.getD (aI_ p key).1 0=p.Kids[(aI_ p key).1]:=by rw[getD_eq_getElem?_getD,hk1];rfl
    have hw1:cA_ (aj_ b.Slots) key (m+1) id=((id,(aI_ p key).1)::(cA_ (aj_ b.Slots) key m p.Kids[(aI_ p key).1]).1,(cA_ (aj_ b.Slots) key m p.Kids[(aI_ p key).1]).2):=by rw[cA_,hp];simp only[hl,Bool.false_eq_true,if_false,hgd]
    rw[hw1]at hS
    simp(disch:=first|omega|simp only[lzz0_];first|done|omega)only[ao_,ad_,at_,a0_,go_sem,seval,t6,t7,o1,bR_,Option.map_some,hk1,ay_]
    refine⟨by omega,by omega,m,by omega,hJ _ _ _ ⟨p.Kids[(aI_ p key).1],out++[(id,(aI_ p key).1)],by simp[upd,t1],by simp[upd,t2],by simp[upd],by simp[upd],hok2,by simp;omega,by simp only[ls_,la_,lc_];omega,by(simp(disch:=(first|omega|(simp only[ls_,la_,lc_,ln_];omega)))only[ao_,ad_]);exact o0,by(simp(disch:=(first|omega|(simp only[ls_,la_,lc_,ln_];omega)))only[aq_]);rw[map_append];rfl,by rw[hS];simp⟩⟩
def b2_(p:am_):Bool:=decide (6<p.Keys.length)||decide (6<p.Kids.length)
def up2(sl:List ab_)(id:Int)(p:am_):List ab_:=ax_ ⟨aO_ (aj_ sl) 64,(a5_ p).2.1⟩ false (ax_ ⟨id,(a5_ p).1⟩ false sl)
def a6_(u:am_)(at':Nat)(key:ByteArray)(other:Int):am_:=⟨u.Leaf,u.Keys.take at'++key::u.Keys.drop at',u.Vals,u.Kids.take (at'+1)++other::u.Kids.drop (at'+1)⟩
def fQ_(key:ByteArray)(a b:Int):am_:=⟨false,[key],[],[a,b]⟩
def upF(way:List (Int×Nat))(root:Int):Nat→List ab_→List ab_×Int×Int
 | 0,sl=>(sl,root,0)
 | k+1,sl=>match aj_ sl (way.getD k (0,0)).1 with
  | none=>(sl,root,0)
  | some p =>
   if b2_ p=false then(sl,root,0)
   else if aO_ (aj_ sl) 64=0 then(sl,root,4)
   else if k=0 then
    if aO_ (aj_ (up2 sl (way.getD k (0,0)).1 p)) 64=0 then(up2 sl (way.getD k (0,0)).1 p,root,4)
    else(ax_ ⟨aO_ (aj_ (up2 sl (way.getD k (0,0)).1 p)) 64,fQ_ (a5_ p).2.2 (way.getD k (0,0)).1 (aO_ (aj_ sl) 64)⟩ false (up2 sl (way.getD k (0,0)).1 p),aO_ (aj_ (up2 sl (way.getD k (0,0)).1 p)) 64,0)
   else match aj_ (up2 sl (way.getD k (0,0)).1 p) (way.getD (k-1) (0,0)).1 with
    | none=>(sl,root,0)
    | some u=>upF way root k (ax_ ⟨(way.getD (k-1) (0,0)).1,a6_ u (way.getD (k-1) (0,0)).2 (a5_ p).2.2 (aO_ (aj_ sl) 64)⟩ false (up2 sl (way.getD k (0,0)).1 p))
def my_(way:List (Int×Nat)):Nat→List ab_→Prop
 | 0,sl=>True
 | k+1,sl=>sl.length≤1000∧∃p,aj_ sl (way.getD k (0,0)).1=some p∧smallP p∧(b2_ p=true→(p.Leaf=true→3<p.Keys.length∧3≤p.Vals.length)∧(p.Leaf=false→3≤p.Keys.length∧3≤p.Kids.length) ∧
  (aO_ (aj_ sl) 64≠0→k≠0→∃u,aj_ (up2 sl (way.getD k (0,0)).1 p) (way.getD (k-1) (0,0)).1=some u∧smallP u∧(way.getD (k-1) (0,0)).2≤u.Keys.length∧(way.getD (k-1) (0,0)).2+1≤u.Kids.length ∧
    my_ way k (ax_ ⟨(way.getD (k-1) (0,0)).1,a6_ u (way.getD (k-1) (0,0)).2 (a5_ p).2.2 (aO_ (aj_ sl) 64)⟩ false (up2 sl (way.getD k (0,0)).1 p))))
theorem mq_(s:ab_)(l:List ab_):(ax_ s false l).length≤l.length+1:=by
 have:=jA_ (aM_.ofG s) false (l.map aM_.ofG)
 rw[ih_,length_map,length_map]at this
 exact this
theorem j7_{h h':List Row}{L:Nat}{root:Int}{sl:List ab_}{av:AV}{K:AV→List Row→Prop}(hav:av.flat=true)(hL:L<h.length)(hkp:∀l,l<h.length→l≠L→h'[l]?=h[l]?)(hb:h'[L]?=some ⟨.ty 28,2,[[.val (.int .i64 root),.list 0 5 (sl.map ab_.cells)]]⟩)
 (hK:∀H',H'.length=h.length→(∀l,l≠L→H'[l]?=h[l]?)→H'[L]?=some ⟨.ty 28,2,[[.val (.int .i64 root),.list 0 5 (sl.map ab_.cells)]]⟩→K av H'):BF_ h h' av K:=by
 refine⟨4,av,h.set L ⟨.ty 28,2,[[.val (.int .i64 root),.list 0 5 (sl.map ab_.cells)]]⟩,oT_ hav,by simp,fun l hl=>?_,hK _ (by simp) (fun l hne=>getElem?_set_ne (Ne.symm hne)) (getElem?_set_self hL)⟩
 by_cases e:l=L
 ·subst e
  exact .inr ⟨_,28,[[.val (.int .i64 root),.list 0 5 (sl.map ab_.cells)]],hb,rfl,rfl,getElem?_set_self hL⟩
 ·exact .inl ⟨hkp l hl e,getElem?_set_ne (Ne.symm e)⟩
theorem uB_{b l k n:Nat}{h:List Row}{r:Row}{es:List (List AV)}(hb:b≤l)(hl:h[l]?=some r)(hk:r.es.length=k)(hm:(r.es.mapM fun(e:List AV)=>e.mapM (cz_ b h n))=some es):cz_ b h (n+1) (.own l k)=some (.list 0 r.sz es):=by
 have e:cz_ b h (n+1) (.own l k)=match h[l]? with
  | some r=>if b≤l∧r.es.length=k then(r.es.mapM fun(e:List AV)=>e.mapM (cz_ b h n)).map (.list 0 r.sz)else none
  | none=>none:=rfl
 rw[e,hl]
 simp only[hb,hk,and_self,if_true]
 rw[hm];rfl
theorem oR_{α β:Type}(f:α→Option β):∀{l1 l2:List α} {r1 r2:List β},l1.mapM f=some r1→l2.mapM f=some r2→(l1++l2).mapM f=some (r1++r2):=by
 intro l1 l2 r1 r2 h1 h2
 rw[mapM_append,h1,h2];rfl
theorem le_{R:AV→Option AV}(c c':aM_)(hid:c'.id=c.id)(hc:c.cells.mapM R=some c'.cells):∀(dn:Bool) (l:List aM_),(∀e∈l,e.cells.mapM R=some e.cells)→((b3_ c dn l).map aM_.cells).mapM (fun(e:List AV)=>e.mapM R)=some ((b3_ c' dn l).map aM_.cells)
 | dn,[],_=>by
  simp only[b3_]
  split
  ·rfl
  ·rw[map_cons,map_nil,mapM_cons,hc];rfl
 | dn,e::l,he=>by
  have h1:=le_ c c' hid hc (dn||decide (e.id≥c.id)) l fun x hx=>he x (mem_cons_of_mem _ hx)
  have h2:=he e mem_cons_self
  have one:∀x y:aM_,x.cells.mapM R=some y.cells→([x].map aM_.cells).mapM (fun(e:List AV)=>e.mapM R)=some ([y].map aM_.cells):=by
   intro x y h
   rw[map_cons,map_nil,mapM_cons,h];rfl
  simp only[b3_,map_append,hid]
  refine oR_ _ ?_ (oR_ _ ?_ h1)
  ·split
   ·exact one _ _ hc
   ·rfl
  ·split
   ·rfl
   ·exact one _ _ h2
def c71:LC :=
 .q [.o [.ki 4 0],.q [.o [.m 14 1,.ll 15 14,.bk 16 .sub false 15 1,.m 5 16],.block 0 (.loop (.q [.q [.o [.m 17 5,.bk 18 .geq false 17 0],.k 18 .skip (.exit 0)],.block 1 (.q [.o [.m 21 1,.m 22 5,.ia 23 2 21 22,
 .fa 24 0 23,.ln 25 24,.m 6 25],.o [.m 26 0,.nc 27 26,.ld 28 2 27,.m 29 6,.c2 30 68 28 29,.s 7 (.alloc 77 z0z),.st 4 7 30],.q [.o [.ld 31 4 7,.c1 32 116 31,.nt 33 32],.k 33 (.q [.o [.ki 4 0],.ret]) .skip],
 .o [.ld 35 4 7,.c1 36 117 35,.m 34 36,.ex 37 34 0,.ex 38 34 1,.ex 39 34 2,.s 8 (.alloc 77 z0z),.s 9 (.alloc 77 z0z),.st 4 8 37,.st 4 9 38,.m 10 39],.o [.m 40 0,.nc 41 40,.ld 42 2 41,.c1 43 118 42,.m 11
 43],.q [.o [.m 44 11,.bk 45 .eql false 44 0],.k 45 (.q [.o [.ki 4 4],.ret]) .skip],.o [.m 46 0,.m 47 6,.ld 48 4 8,.c3 49 70 46 47 48],.o [.m 50 0,.m 51 11,.ld 52 4 9,.c3 53 70 50 51 52],.q [.o [.m 54 5,.bk
 55 .eql false 54 0],.k 55 (.q [.o [.m 56 0,.nc 57 56,.ld 58 2 57,.c1 59 118 58,.m 12 59],.q [.o [.m 60 12,.bk 61 .eql false 60 0],.k 61 (.q [.o [.ki 4 4],.ret]) .skip],.o [.m 62 0,.m 63 12,.m 64 10,.s 65
 (.buildSlice 9 1 (.string ⟨#[]⟩) 1 [(0,.tmp 64)]),.m 66 6,.m 67 11,.s 68 (.buildSlice 2 1 (.int .i64 0) 2 [(0,.tmp 66),(1,.tmp 67)]),.s 69 (.build z0z [(0,1),(1,1),(2,1),(3,1)] [(1,.tmp 65),(3,.tmp
 68)]),.c3 70 70 62 63 69],.o [.m 71 0,.m 72 12,.nc 73 71,.fa 74 0 73,.st 1 74 72],.o [.ki 4 0],.ret]) .skip],.gops [.m 75 0,.nc 76 75,.ld 77 2 76,.m 78 1,.m 79 5,.bk 80 .sub false 79 1,.ia 81 2 78 80,.fa
 82 0 81,.ln 83 82] [(.c2 84 68 77 83,[]),(.c1 85 67 84,[]),(.s 13 (.alloc 77 z0z),[.m 75 0,.nc 76 75,.ld 77 2 76,.m 78 1,.m 79 5,.bk 80 .sub false 79 1,.ia 81 2 78 80,.fa 82 0 81,.ln 83 82]),(.st 4 13 85,
 [])],.gops [.fa 86 1 13,.ln 87 86,.m 88 1,.m 89 5,.bk 90 .sub false 89 1,.ia 91 2 88 90,.fa 92 1 91,.ln 93 92,.m 94 10] [(.c3 95 69 87 93 94,[]),(.fa 96 1 13,[]),(.st 1 96 95,[])],.gops [.fa 97 3 13,.ln
 98 97,.m 99 1,.m 100 5,.bk 101 .sub false 100 1,.ia 102 2 99 101,.fa 103 1 102,.ln 104 103,.bk 105 .add false 104 1,.m 106 11] [(.c3 107 119 98 105 106,[]),(.fa 108 3 13,[]),(.st 1 108 107,[])],.gops [.m
 109 0,.m 110 1,.m 111 5,.bk 112 .sub false 111 1,.ia 113 2 110 112,.fa 114 0 113,.ln 115 114,.ld 116 4 13] [(.c3 117 70 109 115 116,[])]]),.o [.m 19 5,.bk 20 .sub false 19 1,.m 5 20]]))],.o [.ki 4 0],.ret]
def w7_:LF:=⟨2,118,c71,[.tmp 4]⟩
theorem xu_:aA_ Tryz.prog Tryz.f71 w7_:=fh_
set_option maxHeartbeats 4000000 in
theorem oo_(L:Nat)(root:Int)(sl:List ab_)(way:List (Int×Nat))(hw:way.length≤1000)(hok:my_ way way.length sl)(h:List Row)(hL:h[L]?=some ⟨.ty 28,2,[[.val (.int .i64 root),.list 0 5 (sl.map ab_.cells)]]⟩)(K:AV→List Row→Prop)
 (hK:∀H',H'.length=h.length→(∀l,l≠L→H'[l]?=h[l]?)→H'[L]?=some ⟨.ty 28,2,[[.val (.int .i64 (upF way root way.length sl).2.1),.list 0 5 ((upF way root way.length sl).1.map ab_.cells)]]⟩→K (.val (.int .i64 (upF way root way.length sl).2.2)) H') :
 callSem Tryz.prog 71 [.ptr L 1 0 0,.list 0 2 (way.map d3_)] h K:=by
 have lL:=(List.getElem?_eq_some_iff.1 hL).1
 refine o8_ (aF_ mixed Tryz.func71 xu_ (a9_ rfl ?_))
 simp(disch:=omega)only[w7_,c71,au_,go_sem,seval]
 refine aK_ (fun n t H=>∃(k:Nat) (sl':List ab_),t 0=.ptr L 1 0 0∧t 1=.list 0 2 (way.map d3_)∧t 5=.val (.int .i64 ((k:Int)-1))∧n=k∧k≤way.length∧(∀l,l<h.length→l≠L→H[l]?=h[l]?)∧h.length≤H.length∧H[L]?=some ⟨.ty 28,2,[[.val (.int .i64 root),.list 0 5 (sl'.map ab_.cells)]]⟩∧my_ way k sl'∧upF way root way.length sl=upF way root k sl') way.length ?_ ?_
 ·exact⟨way.length,sl,rfl,rfl,by simp[upd],rfl,Nat.le_refl _,fun _ _ _=>rfl,Nat.le_refl _,hL,hok,rfl⟩
 ·rintro J hJ n t H ⟨k,sl',t0,t1,t5,rfl,hk,hkp,hlen,hB,hu,hS⟩
  cases n with
  | zero =>
   have q:(((0:Nat):Int)-1≥0)=False:=eq_false (by omega)
   simp(disch:=first|omega|simp only[lzz0_];first|done|omega)only[go_sem,seval,t5]
   rw[hS]at hK
   exact j7_ rfl lL hkp hB hK
  | succ k =>
   have q0:((k+1:Nat):Int)-1=(k:Int):=by omega
   rw[q0]at t5
   have q:((k:Int)≥0)=True:=eq_true (by omega)
   have hlt:k<way.length:=by omega
   have hgd:way.getD k (0,0)=way[k]:=by rw[getD_eq_getElem?_getD,getElem?_eq_getElem hlt];rfl
   obtain⟨hl1,p,hp,⟨z1,z2,z3⟩,hf⟩:=hu
   rw[hgd]at hp hf
   have hpg:=fun h=>eT_ ⟨root,sl'⟩ way[k].1 p (by show sl'.length≤1048576;omega) hp h
   unfold af_.cells at hpg
   simp(disch:=first|omega|simp only[lzz0_];first|done|omega)only[go_sem,seval,t0,t1,t5,hB,q,d3_]
   refine aa_.call (hpg _) ?_
   simp(disch:=first|omega|simp only[lzz0_];first|done|omega)only[at_,go_sem,seval,am_.cells]
   refine aa_.call (is_ p _) ?_
   have hfp:(decide (6<p.Keys.length)||decide (6<p.Kids.length))=b2_ p:=rfl
   rw[hfp]
   cases hfu:b2_ p with
   | false =>
    simp(disch:=first|omega|simp only[lzz0_];first|done|omega)only[go_sem,↓reduceIte]
    have e:upF way root (k+1) sl'=(sl',root,0):=by rw[upF,hgd,hp];simp[hfu]
    rw[hS,e]at hK
    exact j7_ rfl lL (fun l hl hne=>(getElem?_append_left (by omega)).trans (hkp l hl hne)) ((getElem?_append_left (by omega)).trans hB) hK
   | true =>
    obtain⟨f1,f2,f3⟩:=hf hfu
    simp(disch:=first|omega|simp only[lzz0_];first|done|omega)only[at_,go_sem,seval]
    refine aa_.call (l7_ p z1 z2 z3 f1 f2 _) ?_
    obtain⟨x,y,key,hsp⟩:∃x y key,a5_ p=(x,y,key):=⟨_,_,_,rfl⟩
    have hnew:=fun h=>ji_ ⟨root,sl'⟩ (by show sl'.length≤1048576;omega) h
    unfold af_.cells at hnew
    rw[hsp]
    simp(disch:=first|omega|simp only[lzz0_];first|done|omega)only[ad_,a0_,bJ_,go_sem,seval,t0,hB,am_.cells]
    refine aa_.call (hnew _) ?_
    have hstep:=(rfl:upF way root (k+1) sl'=upF way root (k+1) sl')
    conv at hstep=>rhs;rw[upF,hgd,hp]
    simp only[hfu,Bool.true_eq_false,if_false,hsp]at hstep
    have hu2:up2 sl' way[k].1 p=ax_ ⟨aO_ (aj_ sl') 64,y⟩ false (ax_ ⟨way[k].1,x⟩ false sl'):=by rw[up2,hsp]
    rw[hu2]at hstep f3
    rw[hsp]at f3
    generalize aO_ (aj_ sl') 64=o at *
    by_cases ho:o=0
    ·rw[if_pos ho]at hstep
     simp(disch:=first|omega|simp only[lzz0_];first|done|omega)only[go_sem,↓reduceIte,ho]
     rw[hS,hstep]at hK
     exact j7_ rfl lL (fun l hl hne=>(getElem?_append_left (by omega)).trans (hkp l hl hne)) ((getElem?_append_left (by omega)).trans hB) hK
    ·rw[if_neg ho]at hstep
     have l1:=mq_ ⟨way[k].1,x⟩ sl'
     have l2:=mq_ ⟨o,y⟩ (ax_ ⟨way[k].1,x⟩ false sl')
     simp(disch:=first|omega|simp only[lzz0_];first|done|omega)only[a0_,go_sem,seval,t0,ho]
     refine eR_ L root sl' (by omega) ⟨way[k].1,x⟩ _ ((getElem?_append_left (by omega)).trans hB) _ ?_
     intro H1 len1 kp1 box1
     have b1:=(kp1 (H.length+2) (by omega)).trans (getElem?_append_right (by omega))
     rw[la_]at len1
     rw[Nat.add_sub_cancel_left]at b1
     simp only[lc_,ln_,Nat.zero_add,Nat.reduceAdd,getElem?_cons_succ,getElem?_cons_zero]at len1 b1
     simp(disch:=first|omega|simp only[lzz0_];first|done|omega)only[go_sem,seval,t0,b1]
     refine eR_ L root _ (by omega) ⟨o,y⟩ _ box1 _ ?_
     intro H2 len2 kp2 box2
     have kept:∀l,l<H.length→l≠L→H2[l]?=H[l]?:=fun l h1 h2=>by rw[kp2 l h2,kp1 l h2,getElem?_append_left h1]
     generalize hu:ax_ ⟨o,y⟩ false (ax_ ⟨way[k].1,x⟩ false sl')=u2 at *
     by_cases hk0:k=0
     ·subst hk0
      rw[if_pos rfl]at hstep
      have q2:(((0:Nat):Int)=0)=True:=eq_true rfl
      have hnew2:=fun h=>ji_ ⟨root,u2⟩ (by show u2.length≤1048576;omega) h
      unfold af_.cells at hnew2
      generalize aO_ (aj_ u2) 64=o2 at *
      simp(disch:=first|omega|simp only[lzz0_];first|done|omega)only[go_sem,seval,t0,t5,box2]
      refine aa_.call (hnew2 _) ?_
      by_cases ho2:o2=0
      ·rw[if_pos ho2]at hstep
       simp(disch:=first|omega|simp only[lzz0_];first|done|omega)only[go_sem,↓reduceIte,ho2]
       rw[hS,hstep]at hK
       exact j7_ rfl lL (fun l h1 h2=>(kept l (by omega) h2).trans (hkp l h1 h2)) box2 hK
      ·rw[if_neg ho2]at hstep
       simp(disch:=first|omega|simp only[lzz0_];first|done|omega)only[go_sem,seval,t0,ho2,bR_,Option.map_some]
       refine callSem.args (args':=[.ptr L 1 0 0,.val (.int .i64 o2),.agg [.val (.bool false),.own H2.length 1,.list 0 1 [],.own (H2.length+1) 2]]) (aT_ (bA_ _) (aT_ (bA_ _) (aT_ (hf_ (aT_ (bA_ _) (aT_ (bA_ _) (aT_ (ic_ 1) (aT_ (bA_ _) dM_))))) dM_))) ?_
       refine gc_ L root u2 (by omega) ⟨o2,.val (.bool false),.own H2.length 1,.list 0 1 [],.own (H2.length+1) 2⟩ rfl _ ((getElem?_append_left (by omega)).trans box2) _ ?_
       intro H3 R hR kp3 len3 box3 row3
       rw[la_]at len3 hR
       simp only[lc_,ln_]at len3 hR
       have r1:=(kp3 H2.length (by simp) (by omega)).trans (getElem?_append_right (Nat.le_refl _))
       have r2:=(kp3 (H2.length+1) (by simp) (by omega)).trans (getElem?_append_right (by omega))
       rw[Nat.sub_self]at r1
       rw[Nat.add_sub_cancel_left]at r2
       simp(disch:=first|omega|simp only[lzz0_];first|done|omega)only[go_sem,seval,t0,box3]
       rw[hS,hstep]at hK
       have hbox:∀v,(H3.set L v)[L]?=some v:=fun v=>getElem?_set_self (by have:=(List.getElem?_eq_some_iff.1 box3).1;exact this)
       have hoth:∀v l,l≠L→(H3.set L v)[l]?=H3[l]?:=fun v l hne=>getElem?_set_ne (Ne.symm hne)
       generalize hV:(⟨.ty 28,2,[[.val (.int .i64 o2),.own R (b3_ ⟨o2,.val (.bool false),.own H2.length 1,.list 0 1 [],.own (H2.length+1) 2⟩ false (u2.map aM_.ofG)).length]]⟩:Row)=V
       have c1:cz_ h.length (H3.set L V) 3 (.own H2.length 1)=some (.list 0 1 [[.val (.string key)]]):=mh_ (n:=1) (r:=⟨.ty 9,1,[[.val (.string key)]]⟩) (by omega) ((hoth _ _ (by omega)).trans r1) rfl (by simp[AV.flat])
       have c2:cz_ h.length (H3.set L V) 3 (.own (H2.length+1) 2)=some (.list 0 1 [[.val (.int .i64 way[0].1)],[.val (.int .i64 o)]]):=mh_ (n:=1) (r:=⟨.ty 2,1,[[.val (.int .i64 way[0].1)],[.val (.int .i64 o)]]⟩) (by omega) ((hoth _ _ (by omega)).trans r2) rfl (by simp[AV.flat])
       have hcc:(aM_.cells ⟨o2,.val (.bool false),.own H2.length 1,.list 0 1 [],.own (H2.length+1) 2⟩).mapM (cz_ h.length (H3.set L V) 3)=some (aM_.ofG ⟨o2,fQ_ key way[0].1 o⟩).cells:=by
        unfold aM_.cells
        rw[mapM_cons,mapM_cons,mapM_cons,mapM_cons,mapM_cons,c1,c2]
        rfl
       have hrow:=le_ (R:=cz_ h.length (H3.set L V) 3) ⟨o2,.val (.bool false),.own H2.length 1,.list 0 1 [],.own (H2.length+1) 2⟩ (aM_.ofG ⟨o2,fQ_ key way[0].1 o⟩) rfl hcc false (u2.map aM_.ofG) (fun e he=>ll_ (by obtain⟨x,_,rfl⟩:=mem_map.1 he;rfl))
       rw[jP_]at hrow
       have hown:=uB_ (b:=h.length) (n:=3) (by omega) ((hoth V R (by omega)).trans row3) (length_map _) hrow
       refine⟨4,.val (.int .i64 0),h.set L ⟨.ty 28,2,[[.val (.int .i64 o2),.list 0 5 ((ax_ ⟨o2,fQ_ key way[0].1 o⟩ false u2).map ab_.cells)]]⟩,rfl,by simp,fun l hl=>?_,hK _ (by simp) (fun l hne=>getElem?_set_ne (Ne.symm hne)) (getElem?_set_self lL)⟩
       by_cases e:l=L
       ·subst e
        refine .inr ⟨V,28,[[.val (.int .i64 o2),.list 0 5 ((ax_ ⟨o2,fQ_ key way[0].1 o⟩ false u2).map ab_.cells)]],hbox V,by rw[←hV],?_,by rw[←hV];exact getElem?_set_self lL⟩
        rw[←hV]at hown⊢
        show List.mapM (fun e=>List.mapM (cz_ h.length _ 4) e) [[AV.val (.int .i64 o2),.own R _]]=_
        rw[mapM_cons,mapM_cons,mapM_cons,hown]
        rfl
       ·refine .inl ⟨?_,getElem?_set_ne (Ne.symm e)⟩
        rw[hoth V l e,kp3 l (by rw[la_];omega) e,getElem?_append_left (by omega)]
        exact(kept l (by omega) e).trans (hkp l hl e)
     ·have q2:((k:Int)=0)=False:=eq_false (by omega)
      have km:(k:Int)-1=((k-1:Nat):Int):=by omega
      have hk1:k-1<way.length:=by omega
      have hgd1:way.getD (k-1) (0,0)=way[k-1]:=by rw[getD_eq_getElem?_getD,getElem?_eq_getElem hk1];rfl
      obtain⟨u,hu1,⟨w1,w2,w3⟩,hat,hat2,hok2⟩:=f3 ho hk0
      rw[if_neg hk0,hu1]at hstep
      rw[hgd1]at hu1 hat hat2 hok2 hstep
      have hpg2:=fun h=>eT_ ⟨root,u2⟩ way[k-1].1 u (by show u2.length≤1048576;omega) hu1 h
      unfold af_.cells at hpg2
      simp(disch:=first|omega|simp only[lzz0_];first|done|omega)only[go_sem,seval,t0,t1,t5,q2,box2,km,d3_,au_]
      refine aa_.call (hpg2 _) ?_
      simp(disch:=first|omega|simp only[lzz0_];first|done|omega)only[go_sem,↓reduceIte,am_.cells]
      refine aa_.call (e2_ u w1 w2 w3 _) ?_
      have ka:((way[k-1].2:Nat):Int)+1=((way[k-1].2+1:Nat):Int):=by omega
      simp(disch:=first|omega|simp only[lzz0_];first|done|omega)only[ad_,at_,go_sem,seval,t0,t1,t5,box2,km,d3_,au_,am_.cells,Option.map_some]
      refine aa_.call (fy_ u.Keys way[k-1].2 key w1 hat _) ?_
      simp(disch:=first|omega|simp only[lzz0_];first|done|omega)only[at_,go_sem,seval,t1,t5,km,d3_,au_,ka]
      refine aa_.call (ko_ u.Kids (way[k-1].2+1) o w3 hat2 _) ?_
      simp(disch:=first|omega|simp only[lzz0_];first|done|omega)only[at_,go_sem,seval,t0,t1,t5,km,d3_,au_]
      have hL3:∀r,(H2++[r])[L]?=some ⟨.ty 28,2,[[.val (.int .i64 root),.list 0 5 (u2.map ab_.cells)]]⟩:=fun r=>(getElem?_append_left (by omega)).trans box2
      refine eR_ L root u2 (by omega) ⟨way[k-1].1,a6_ u way[k-1].2 key o⟩ _ (hL3 _) _ ?_
      intro H3 len3 kp3 box3
      rw[la_,length_singleton]at len3
      simp(disch:=first|omega|simp only[lzz0_];first|done|omega)only[go_sem,seval,t5,au_]
      exact⟨k,by omega,hJ _ _ _ ⟨k,_,by simp[upd,t0],by simp[upd,t1],by simp[upd],rfl,by omega,fun l h1 h2=>by rw[kp3 l h2,getElem?_append_left (by omega)];exact(kept l (by omega) h2).trans (hkp l h1 h2),by omega,box3,hok2,by rw[hS,hstep]⟩⟩
def ed_(sl:List ab_):Prop:=sl.Pairwise fun a b=>a.Id<b.Id
theorem jD_(id:Int):aj_ [] id=none:=rfl
theorem bM_(e:ab_)(r:List ab_)(id:Int):aj_ (e::r) id=if e.Id=id then some e.Page else aj_ r id:=by
 unfold aj_
 rw[find?_cons]
 by_cases h:e.Id=id
 ·simp[h]
 ·have:(e.Id==id)=false:=by simpa using h
  simp[this,h]
theorem lC_{r:List ab_}{id:Int}(h:∀x∈r,id<x.Id):aj_ r id=none:=by
 unfold aj_
 have:r.find? (fun s=>s.Id==id)=none:=by
  rw[find?_eq_none]
  intro x hx e
  have h1:=h x hx
  have h2:x.Id=id:=by simpa using e
  omega
 rw[this];rfl
theorem ff_{sl:List ab_}{id:Int}{p:am_}(h:aj_ sl id=some p):⟨id,p⟩∈sl:=by
 induction sl with
 | nil=>cases h
 | cons e r ih =>
  rw[bM_]at h
  split at h
  ·rename_i q
   have:=Option.some.inj h
   subst q this
   exact mem_cons_self
  ·exact mem_cons_of_mem _ (ih h)
theorem n8_{sl:List ab_}(hr:ed_ sl){s:ab_}(h:s∈sl):aj_ sl s.Id=some s.Page:=by
 induction sl with
 | nil=>cases h
 | cons e r ih =>
  obtain⟨h1,h2⟩:=pairwise_cons.1 hr
  rw[bM_]
  rcases mem_cons.1 h with q|q
  ·rw[if_pos (by rw[q]),q]
  ·have:=h1 s q
   rw[if_neg (by omega)]
   exact ih h2 q
theorem oV_(s:ab_):∀l:List ab_,(∀x∈l,s.Id<x.Id)→ax_ s true l=l
 | [],_=>by simp[ax_]
 | e::r,h=>by
  have h1:=h e mem_cons_self
  have hne:¬ e.Id=s.Id:=by omega
  simp[ax_,hne,oV_ s r fun x hx=>h x (mem_cons_of_mem _ hx)]
theorem kA_{e:ab_}{r:List ab_}(hr:ed_ (e::r))(s:ab_):ax_ s false (e::r)=if e.Id<s.Id then e::ax_ s false r else if e.Id=s.Id then s::r else s::e::r:=by
 have hlt:∀x∈r,e.Id<x.Id:=(pairwise_cons.1 hr).1
 by_cases h1:e.Id<s.Id
 ·have h2:decide (e.Id≥s.Id)=false:=decide_eq_false (by omega)
  have h3:decide (e.Id=s.Id)=false:=decide_eq_false (by omega)
  rw[if_pos h1,ax_,h2,h3];rfl
 ·have h2:decide (e.Id≥s.Id)=true:=decide_eq_true (by omega)
  have h4:=oV_ s r fun x hx=>by have:=hlt x hx;omega
  rw[if_neg h1,ax_,h2,Bool.or_true,h4]
  by_cases h3:e.Id=s.Id
  ·rw[if_pos h3,decide_eq_true h3];rfl
  ·rw[if_neg h3,decide_eq_false h3];rfl
theorem cr_{s:ab_}:∀{sl:List ab_},ed_ sl→∀id,aj_ (ax_ s false sl) id=if s.Id=id then some s.Page else aj_ sl id
 | [],_,id=>by simp[ax_,bM_,jD_]
 | e::r,h,id=>by
  have hr:ed_ r:=(pairwise_cons.1 h).2
  have ih:=cr_ (s:=s) hr id
  rw[kA_ h s]
  split
  ·rename_i h1
   rw[bM_,ih,bM_]
   by_cases q:e.Id=id
   ·have:¬ s.Id=id:=by omega
    rw[if_pos q,if_neg this,if_pos q]
   ·rw[if_neg q,if_neg q]
  ·split
   ·rename_i h1 h2
    rw[bM_,bM_]
    by_cases q:s.Id=id
    ·rw[if_pos q,if_pos q]
    ·have:¬ e.Id=id:=by omega
     rw[if_neg q,if_neg q,if_neg this]
   ·rw[bM_]
theorem si_{s x:ab_}:∀{sl:List ab_},ed_ sl→x∈ax_ s false sl→x=s∨x∈sl
 | [],_,h=>by simp[ax_]at h;exact .inl h
 | e::r,hr,h=>by
  rw[kA_ hr s]at h
  split at h
  ·rcases mem_cons.1 h with q|q
   ·exact .inr (q▸mem_cons_self)
   ·rcases si_ (pairwise_cons.1 hr).2 q with q|q
    ·exact .inl q
    ·exact .inr (mem_cons_of_mem _ q)
  ·split at h
   ·rcases mem_cons.1 h with q|q
    ·exact .inl q
    ·exact .inr (mem_cons_of_mem _ q)
   ·rcases mem_cons.1 h with q|q
    ·exact .inl q
    ·exact .inr q
theorem mj_{s:ab_}:∀{sl:List ab_},ed_ sl→ed_ (ax_ s false sl)
 | [],_=>by simp[ax_,ed_]
 | e::r,hr=>by
  obtain⟨h1,h2⟩:=pairwise_cons.1 hr
  rw[kA_ hr s]
  split
  ·rename_i q
   refine pairwise_cons.2 ⟨fun x hx=>?_,mj_ h2⟩
   rcases si_ h2 hx with rfl|hx
   ·exact q
   ·exact h1 x hx
  ·split
   ·rename_i q1 q2
    refine pairwise_cons.2 ⟨fun x hx=>?_,h2⟩
    have:=h1 x hx;omega
   ·rename_i q1 q2
    refine pairwise_cons.2 ⟨fun x hx=>?_,hr⟩
    rcases mem_cons.1 hx with rfl|hx
    ·omega
    ·have:=h1 x hx;omega
theorem qA_:∀{a b:List ab_},ed_ a→ed_ b→(∀id,aj_ a id=aj_ b id)→a=b
 | [],[],_,_,_=>rfl
 | [],e::r,_,_,h=>by have:=h e.Id;rw[bM_,if_pos rfl,jD_]at this;cases this
 | e::r,[],_,_,h=>by have:=h e.Id;rw[bM_,if_pos rfl,jD_]at this;cases this
 | e::r,f::q,ha,hb,h=>by
  obtain⟨a1,a2⟩:=pairwise_cons.1 ha
  obtain⟨b1,b2⟩:=pairwise_cons.1 hb
  have lt:∀{x y:ab_} {z:List ab_},x.Id<y.Id→(∀w∈z,y.Id<w.Id)→∀w∈y::z,x.Id<w.Id:=by
   intro x y z h1 h2 w hw
   rcases mem_cons.1 hw with rfl|hw
   ·exact h1
   ·have:=h2 w hw;omega
  have he:e.Id=f.Id:=by
   rcases Int.lt_trichotomy e.Id f.Id with z|z|z
   ·have:=h e.Id
    rw[bM_,if_pos rfl,lC_ (lt z b1)]at this
    cases this
   ·exact z
   ·have:=h f.Id
    rw[bM_ f,if_pos rfl,lC_ (lt z a1)]at this
    cases this
  have hp:e.Page=f.Page:=by
   have:=h e.Id
   rw[bM_,bM_,if_pos rfl,if_pos he.symm]at this
   exact Option.some.inj this
  have hrest:r=q:=qA_ a2 b2 fun id=>by
   by_cases z:e.Id=id
   ·rw[lC_ (fun x hx=>z▸a1 x hx),lC_ (fun x hx=>by have:=b1 x hx;omega)]
   ·have:=h id
    rwa [bM_,bM_,if_neg z,if_neg (fun w=>z (he.trans w))]at this
  obtain⟨i1,p1⟩:=e
  obtain⟨i2,p2⟩:=f
  simp only at he hp
  rw[he,hp,hrest]
theorem nN_{st st':c4_}(h:∀id,(st id).isSome=(st' id).isSome):∀n,aO_ st n=aO_ st' n
 | 0=>rfl
 | n+1=>by
  have h1:(st (64-(n:Int))=none)=(st' (64-(n:Int))=none):=by
   have:=h (64-(n:Int))
   cases e1:st (64-(n:Int))<;>cases e2:st' (64-(n:Int))<;>rw[e1,e2]at this<;>first|rfl|(simp;done)|(simp at this;done)
  simp only[aO_,h1,nN_ h n]
theorem g6_{st:c4_}:∀n,n≤64→aO_ st n=0∨(1≤aO_ st n∧aO_ st n≤64∧st (aO_ st n)=none)
 | 0,_=>.inl rfl
 | n+1,h=>by
  rw[aO_]
  split
  ·rename_i q
   exact .inr ⟨by omega,by omega,q⟩
  ·exact g6_ n (by omega)
theorem ex_{p:am_}(h:bk_ p=true)(hl:p.Leaf=true):dc_ p.Keys=true∧p.Keys.length≤6∧p.Vals.length=p.Keys.length∧p.Kids=[]∧∀v∈p.Vals,v.size≤64:=by
 simp only[bk_,hl,if_true,Bool.and_eq_true,decide_eq_true_eq,all_eq_true]at h
 obtain⟨h1,⟨⟨h2,h3⟩,h4⟩,h5⟩:=h
 exact⟨h1,by omega,by omega,eq_nil_of_length_eq_zero h5,fun v hv=>by have:=h4 v hv;omega⟩
theorem d1_{p:am_}(h:bk_ p=true)(hl:p.Leaf=false):dc_ p.Keys=true∧2≤p.Kids.length∧p.Kids.length≤6∧p.Kids.length=p.Keys.length+1∧p.Vals=[]∧∀k∈p.Kids,1≤k∧k≤64:=by
 simp only[bk_,hl,Bool.false_eq_true,if_false,br_,Bool.and_eq_true,decide_eq_true_eq,all_eq_true]at h
 obtain⟨h1,⟨⟨⟨h2,h2'⟩,h3⟩,h4⟩,h5⟩:=h
 exact⟨h1,by omega,by omega,by omega,eq_nil_of_length_eq_zero h4,fun k hk=>h5 k hk⟩
def shapeP(p:am_):Prop:=(p.Leaf=true→p.Vals.length=p.Keys.length∧p.Kids=[]∧p.Keys.length≤7)∧(p.Leaf=false→p.Kids.length=p.Keys.length+1∧p.Vals=[]∧p.Kids.length≤7)∧(∀k∈p.Keys,ci_ k=true)∧∀v∈p.Vals,v.size≤64
theorem wh_{xs:List ByteArray}(h:dc_ xs=true):∀k∈xs,ci_ k=true:=by
 intro k hk
 obtain⟨j,hj,rfl⟩:=mem_iff_getElem.1 hk
 rw[dc_,all_eq_true]at h
 have:=h j (by simpa using hj)
 rw[rb_ hj,Bool.and_eq_true]at this
 exact this.1
theorem eP_{p:am_}(h:bk_ p=true):shapeP p:=by
 have hk:dc_ p.Keys=true:=by
  rw[bk_,Bool.and_eq_true]at h
  exact h.1
 refine⟨fun hl=>?_,fun hl=>?_,wh_ hk,fun v hv=>?_⟩
 ·obtain⟨_,h1,h2,h3,_⟩:=ex_ h hl
  exact⟨h2,h3,by omega⟩
 ·obtain⟨_,_,h1,h2,h3,_⟩:=d1_ h hl
  exact⟨h2,h3,by omega⟩
 ·cases hl:p.Leaf with
  | true =>
   obtain⟨_,h1,h2,h3,h4⟩:=ex_ h hl
   exact h4 v hv
  | false =>
   obtain⟨_,_,h1,h2,h3,_⟩:=d1_ h hl
   rw[h3]at hv;cases hv
theorem shapeP.small{p:am_}(h:shapeP p):p.Keys.length≤7∧p.Vals.length≤7∧p.Kids.length≤7:=by
 cases hl:p.Leaf with
 | true =>
  obtain⟨h1,h2,h3⟩:=h.1 hl
  rw[h2]
  exact⟨h3,by omega,by simp⟩
 | false =>
  obtain⟨h1,h2,h3⟩:=h.2.1 hl
  rw[h2]
  exact⟨by omega,by simp,by omega⟩
theorem shapeP.smallP{p:am_}(h:shapeP p):smallP p:=by
 obtain⟨h1,h2,h3⟩:=h.small
 exact⟨by omega,by omega,by omega⟩
theorem kB_{xs:List ByteArray}{key:ByteArray}(h:dH_ xs key=true):lbK xs key<xs.length:=by
 rw[dH_,decide_eq_true_eq]at h
 exact(List.getElem?_eq_some_iff.1 h).1
theorem gF_(p:am_)(key:ByteArray):(aI_ p key).1≤p.Keys.length:=by
 unfold aI_
 split
 ·rename_i h
  simp only[Bool.and_eq_true]at h
  have:=kB_ h.2
  exact this
 ·exact m4_ _ _
theorem hH_{p:am_}(hl:p.Leaf=true)(key:ByteArray):aI_ p key=(lbK p.Keys key,dH_ p.Keys key):=by
 unfold aI_;rw[hl];rfl
theorem j2_{p:am_}(h:shapeP p)(hl:p.Leaf=true)(hf:b2_ p=true):p.Keys.length=7:=by
 obtain⟨h1,h2,h3⟩:=h.1 hl
 simp only[b2_,h2,Bool.or_eq_true,decide_eq_true_eq,ln_]at hf
 omega
theorem ju_{p:am_}(h:shapeP p)(hl:p.Leaf=false)(hf:b2_ p=true):p.Keys.length=6∧p.Kids.length=7:=by
 obtain⟨h1,h2,h3⟩:=h.2.1 hl
 simp only[b2_,Bool.or_eq_true,decide_eq_true_eq]at hf
 omega
theorem nd_{p:am_}(h:bk_ p=true):b2_ p=false:=by
 cases hl:p.Leaf with
 | true =>
  obtain⟨_,h1,h2,h3,_⟩:=ex_ h hl
  simp only[b2_,h3,ln_,Bool.or_eq_false_iff,decide_eq_false_iff_not]
  omega
 | false =>
  obtain⟨_,_,h1,h2,h3,_⟩:=d1_ h hl
  simp only[b2_,Bool.or_eq_false_iff,decide_eq_false_iff_not]
  omega
theorem qu_{p:am_}(h:shapeP p)(hf:b2_ p=true):shapeP (a5_ p).1∧shapeP (a5_ p).2.1:=by
 cases hl:p.Leaf with
 | true =>
  have h1:=j2_ h hl hf
  obtain⟨h2,h3,h4⟩:=h.1 hl
  rw[a5_,if_pos hl]
  refine⟨⟨fun _=>⟨?_,rfl,?_⟩,fun e=>(by cases e),fun k hk=>h.2.2.1 k (mem_of_mem_take hk),fun v hv=>h.2.2.2 v (mem_of_mem_take hv)⟩,⟨fun _=>⟨?_,rfl,?_⟩,fun e=>(by cases e),fun k hk=>h.2.2.1 k (mem_of_mem_drop hk),fun v hv=>h.2.2.2 v (mem_of_mem_drop hv)⟩⟩<;>simp only[length_take,length_drop]<;>omega
 | false =>
  obtain⟨h1,h5⟩:=ju_ h hl hf
  obtain⟨h2,h3,h4⟩:=h.2.1 hl
  rw[a5_,if_neg (by rw[hl];simp)]
  refine⟨⟨fun e=>(by cases e),fun _=>⟨?_,rfl,?_⟩,fun k hk=>h.2.2.1 k (mem_of_mem_take hk),fun v hv=>(by cases hv)⟩,⟨fun e=>(by cases e),fun _=>⟨?_,rfl,?_⟩,fun k hk=>h.2.2.1 k (mem_of_mem_drop hk),fun v hv=>(by cases hv)⟩⟩<;>simp only[length_take,length_drop]<;>omega
theorem sr_{p:am_}(h:shapeP p)(hf:b2_ p=true):ci_ (a5_ p).2.2=true:=by
 cases hl:p.Leaf with
 | true =>
  have h1:=j2_ h hl hf
  rw[a5_,if_pos hl]
  show ci_ (p.Keys.getD 3 ⟨#[]⟩)=true
  rw[getD_eq_getElem?_getD,getElem?_eq_getElem (by omega)]
  exact h.2.2.1 _ (getElem_mem _)
 | false =>
  have h1:=ju_ h hl hf
  rw[a5_,if_neg (by rw[hl];simp)]
  show ci_ (p.Keys.getD 2 ⟨#[]⟩)=true
  rw[getD_eq_getElem?_getD,getElem?_eq_getElem (by omega)]
  exact h.2.2.1 _ (getElem_mem _)
def cO_(T:Int→ByteArray→ByteArray→List Int→Prop):List Int→List ByteArray→ByteArray→ByteArray→List Int→Prop
 | [],_,_,_,_=>False
 | [kid],[],low,high,ids=>T kid low high ids
 | _::_::_,[],_,_,_=>False
 | kid::kids,k::keys,low,high,ids=>∃a b,ids=a++b∧T kid low k a∧cO_ T kids keys k high b
def cB_(st:c4_):Nat→Bool→Int→ByteArray→ByteArray→List Int→Prop
 | 0,top,id,low,high,ids=>∃p,st id=some p∧p.Leaf=true∧bk_ p=true∧i3_ p low high=false∧(top=true∨3≤p.Keys.length)∧ids=[id]
 | h+1,top,id,low,high,ids=>∃p,st id=some p∧p.Leaf=false∧bk_ p=true∧i3_ p low high=false∧(top=true∨3≤p.Kids.length)∧∃r,ids=id::r∧cO_ (fun kid lo hi m=>cB_ st h false kid lo hi m) p.Kids p.Keys low high r
theorem cO_.mono{T T':Int→ByteArray→ByteArray→List Int→Prop}:∀{kids:List Int} {keys:List ByteArray} {low high:ByteArray} {ids:List Int},(∀kid lo hi m,(∀i∈m,i∈ids)→T kid lo hi m→T' kid lo hi m)→cO_ T kids keys low high ids→cO_ T' kids keys low high ids
 | [],_,_,_,_,_,h=>h.elim
 | [kid],[],low,high,ids,hT,h=>hT _ _ _ _ (fun _ q=>q) h
 | _::_::_,[],_,_,_,_,h=>h.elim
 | [kid],k::keys,low,high,ids,hT,h=>by
  obtain⟨a,b,e,h1,h2⟩:=h
  exact h2.elim
 | kid::kid'::kids,k::keys,low,high,ids,hT,h=>by
  obtain⟨a,b,e,h1,h2⟩:=h
  exact⟨a,b,e,hT _ _ _ _ (fun i hi=>by rw[e];exact mem_append_left _ hi) h1,cO_.mono (fun kid lo hi m hm q=>hT _ _ _ _ (fun i hi=>by rw[e];exact mem_append_right _ (hm i hi)) q) h2⟩
theorem cO_.len{T:Int→ByteArray→ByteArray→List Int→Prop}:∀{kids:List Int} {keys:List ByteArray} {low high:ByteArray} {ids:List Int},cO_ T kids keys low high ids→kids.length=keys.length+1
 | [],_,_,_,_,h=>h.elim
 | [kid],[],low,high,ids,h=>rfl
 | _::_::_,[],_,_,_,h=>h.elim
 | [kid],k::keys,low,high,ids,h=>by
  obtain⟨a,b,e,h1,h2⟩:=h
  exact h2.elim
 | kid::kid'::kids,k::keys,low,high,ids,h=>by
  obtain⟨a,b,e,h1,h2⟩:=h
  have:=cO_.len h2
  simp only[lc_]at this⊢
  omega
theorem cO_.get{T:Int→ByteArray→ByteArray→List Int→Prop}:∀{kids:List Int} {keys:List ByteArray} {low high:ByteArray} {ids:List Int} (k:Nat) (hk:k<kids.length),cO_ T kids keys low high ids →
 ∃a m b,ids=a++(m++b)∧T kids[k] (if 0<k then keys.getD (k-1) ⟨#[]⟩else low) (if k<keys.length then keys.getD k ⟨#[]⟩else high) m
 | [],_,_,_,_,_,hk,h=>h.elim
 | [kid],[],low,high,ids,k,hk,h=>by
  have:k=0:=by simpa using hk
  subst this
  exact⟨[],ids,[],by simp,h⟩
 | _::_::_,[],_,_,_,_,_,h=>h.elim
 | [kid],k'::keys,low,high,ids,k,hk,h=>by
  obtain⟨a,b,e,h1,h2⟩:=h
  exact h2.elim
 | kid::kid'::kids,k'::keys,low,high,ids,k,hk,h=>by
  obtain⟨a,b,e,h1,h2⟩:=h
  cases k with
  | zero=>exact⟨[],a,b,e,by simpa using h1⟩
  | succ k =>
   obtain⟨a',m,b',e',h3⟩:=cO_.get (kids:=kid'::kids) k (by simpa using hk) h2
   refine⟨a++a',m,b',by rw[e,e'];simp,?_⟩
   have e1:(if 0<k+1 then(k'::keys).getD (k+1-1) ⟨#[]⟩else low)=if 0<k then keys.getD (k-1) ⟨#[]⟩else k':=by
    cases k with
    | zero=>rfl
    | succ k=>simp
   have e2:(if k+1<(k'::keys).length then(k'::keys).getD (k+1) ⟨#[]⟩else high)=if k<keys.length then keys.getD k ⟨#[]⟩else high:=by
    simp
   rw[e1,e2]
   exact h3
theorem cB_.page{st:c4_}{h:Nat}{top:Bool}{id:Int}{low high:ByteArray}{ids:List Int}(t:cB_ st h top id low high ids):∃p,st id=some p∧bk_ p=true∧i3_ p low high=false∧p.Leaf=decide (h=0)∧id∈ids:=by
 cases h with
 | zero =>
  obtain⟨p,h1,h2,h3,h4,h5,h6⟩:=t
  exact⟨p,h1,h3,h4,by rw[h2];rfl,by rw[h6];exact mem_cons_self⟩
 | succ h =>
  obtain⟨p,h1,h2,h3,h4,h5,r,h6,h7⟩:=t
  exact⟨p,h1,h3,h4,by rw[h2];simp,by rw[h6];exact mem_cons_self⟩
theorem cB_.congr{st st':c4_}:∀{h:Nat} {top:Bool} {id:Int} {low high:ByteArray} {ids:List Int},(∀i∈ids,st' i=st i)→cB_ st h top id low high ids→cB_ st' h top id low high ids
 | 0,top,id,low,high,ids,hs,t=>by
  obtain⟨p,h1,h2,h3,h4,h5,h6⟩:=t
  exact⟨p,by rw[hs id (by rw[h6];exact mem_cons_self)];exact h1,h2,h3,h4,h5,h6⟩
 | h+1,top,id,low,high,ids,hs,t=>by
  obtain⟨p,h1,h2,h3,h4,h5,r,h6,h7⟩:=t
  refine⟨p,by rw[hs id (by rw[h6];exact mem_cons_self)];exact h1,h2,h3,h4,h5,r,h6,cO_.mono (fun kid lo hi m hm q=>cB_.congr (fun i hi=>hs i ?_) q) h7⟩
  rw[h6];exact mem_cons_of_mem _ (hm i hi)
theorem cO_.has{T:Int→ByteArray→ByteArray→List Int→Prop}{Q:Int→Prop}(hQ:∀kid lo hi m,T kid lo hi m→∀i∈m,Q i):∀{kids:List Int} {keys:List ByteArray} {low high:ByteArray} {ids:List Int},cO_ T kids keys low high ids→∀i∈ids,Q i
 | [],_,_,_,_,h=>h.elim
 | [kid],[],low,high,ids,h=>hQ _ _ _ _ h
 | _::_::_,[],_,_,_,h=>h.elim
 | [kid],k::keys,low,high,ids,h=>by
  obtain⟨a,b,e,h1,h2⟩:=h
  exact h2.elim
 | kid::kid'::kids,k::keys,low,high,ids,h=>by
  obtain⟨a,b,e,h1,h2⟩:=h
  intro i hi
  rw[e]at hi
  rcases mem_append.1 hi with q|q
  ·exact hQ _ _ _ _ h1 i q
  ·exact cO_.has hQ h2 i q
theorem cB_.has{st:c4_}:∀{h:Nat} {top:Bool} {id:Int} {low high:ByteArray} {ids:List Int},cB_ st h top id low high ids→∀i∈ids,(st i).isSome=true
 | 0,top,id,low,high,ids,t=>by
  obtain⟨p,h1,h2,h3,h4,h5,h6⟩:=t
  intro i hi
  rw[h6,mem_singleton]at hi
  rw[hi,h1];rfl
 | h+1,top,id,low,high,ids,t=>by
  obtain⟨p,h1,h2,h3,h4,h5,r,h6,h7⟩:=t
  intro i hi
  rw[h6]at hi
  rcases mem_cons.1 hi with q|q
  ·rw[q,h1];rfl
  ·exact cO_.has (Q:=fun i=>(st i).isSome=true) (fun kid lo hi m q=>cB_.has q) h7 i q
theorem oD_{p:am_}{low high:ByteArray}{f:Int→ByteArray→ByteArray→List Int→Int→Bool×List Int×Int}{T:Nat→Int→ByteArray→ByteArray→List Int→Prop}{Q:List Int→Prop}(hQ:∀a b,Q a→Q (a++b)){d:Int}
 (hf:∀kid lo hi m e m' e',Q m→f kid lo hi m e=(true,m',e')→∃(h:Nat) (ids:List Int),T h kid lo hi ids∧m'=m++ids∧e'=d+h∧(0≤e→e=d+h)∧ids.Nodup∧∀i∈ids,i∉m) :
 ∀(r:List Int) (k:Nat) (met:List Int) (dep:Int) (met':List Int) (dep':Int),Q met→r=p.Kids.drop k→r≠[]→p.Kids.length=p.Keys.length+1→0≤d→dI_ f p low high k r met dep=(true,met',dep') →
  ∃(h:Nat) (ids:List Int),cO_ (T h) r (p.Keys.drop k) (loK p low k) high ids∧met'=met++ids∧dep'=d+h∧(0≤dep→dep=d+h)∧ids.Nodup∧∀i∈ids,i∉met
 | [],_,_,_,_,_,_,_,hne,_,_,_=>absurd rfl hne
 | kid::r,k,met,dep,met',dep',hq,hr,_,hl,hd,hk=>by
  rw[dI_]at hk
  obtain⟨b,m1,e1⟩:∃b m1 e1,f kid (loK p low k) (hiK p high k) met dep=(b,m1,e1):=⟨_,_,_,rfl⟩
  obtain⟨e1,he⟩:=e1
  rw[he]at hk
  cases b with
  | false=>simp at hk
  | true =>
   simp only[if_true]at hk
   obtain⟨h,ids,t1,t2,t3,t4,t5,t6⟩:=hf _ _ _ _ _ _ _ hq he
   have hkl:k<p.Kids.length:=by
    have:=congrArg List.length hr
    simp only[lc_,length_drop]at this
    omega
   have hr2:r=p.Kids.drop (k+1):=by
    rw[drop_eq_getElem_cons hkl]at hr
    exact(List.cons.inj hr).2
   cases r with
   | nil =>
    have hkk:k=p.Keys.length:=by
     have:=congrArg List.length hr2
     simp only[ln_,length_drop]at this
     omega
    simp only[dI_,Prod.mk.injEq,true_and]at hk
    refine⟨h,ids,?_,by rw[←hk.1,t2],by rw[←hk.2,t3],t4,t5,t6⟩
    rw[drop_eq_nil_of_le (by omega)]
    have:hiK p high k=high:=by rw[hiK,if_neg (by omega)]
    rw[this]at t1
    exact t1
   | cons kid2 r =>
    have hk2:k<p.Keys.length:=by
     have:=congrArg List.length hr2
     simp only[lc_,length_drop]at this
     omega
    subst t2
    obtain⟨h',ids',s1,s2,s3,s4,s5,s6⟩:=oD_ hQ hf (kid2::r) (k+1) (met++ids) e1 met' dep' (hQ _ _ hq) hr2 (by simp) hl hd hk
    have hh:h'=h:=by
     have:=s4 (by omega)
     omega
    subst hh
    have e1:hiK p high k=p.Keys[k]:=by rw[hiK,if_pos hk2,getD_eq_getElem?_getD,getElem?_eq_getElem hk2];rfl
    have e2:loK p low (k+1)=p.Keys[k]:=by rw[loK,if_pos (by omega),Nat.add_sub_cancel,getD_eq_getElem?_getD,getElem?_eq_getElem hk2];rfl
    rw[e1]at t1
    rw[e2]at s1
    refine⟨h',ids++ids',?_,by rw[s2,append_assoc],s3,t4,?_,?_⟩
    ·rw[drop_eq_getElem_cons hk2]
     exact⟨ids,ids',rfl,t1,s1⟩
    ·rw[nodup_append]
     refine⟨t5,s5,fun a ha b hb e=>?_⟩
     subst e
     exact s6 a hb (mem_append_right _ ha)
    ·intro i hi
     rcases mem_append.1 hi with q|q
     ·exact t6 i q
     ·exact fun z=>s6 i q (mem_append_left _ z)
theorem oH_{st:c4_}{root:Int}(hst:∀id p,st id=some p→bk_ p=true):∀(n:Nat) (id:Int) (low high:ByteArray) (d:Int) (met:List Int) (dep:Int) (met':List Int) (dep':Int),0≤d→(id=root∨root∈met)→cx_ st root n id low high d met dep=(true,met',dep') →
 ∃(h:Nat) (ids:List Int),cB_ st h (decide (id=root)) id low high ids∧met'=met++ids∧dep'=d+h∧(0≤dep→dep=d+h)∧ids.Nodup∧∀i∈ids,i∉met
 | 0,_,_,_,_,_,_,_,_,_,_,h=>by simp[cx_]at h
 | n+1,id,low,high,d,met,dep,met',dep',hd,hroot,h=>by
  rw[jU_]at h
  split at h
  ·simp at h
  ·rename_i p hp
   have hpb:=hst id p hp
   split at h
   ·simp at h
   ·rename_i hc
    have hni:id∉met:=by simpa using hc
    split at h
    ·simp at h
    ·rename_i ho
     have ho':i3_ p low high=false:=by simpa using ho
     split at h
     ·simp at h
     ·rename_i hfl
      have hfill:decide (id=root)=true∨3≤fo_ p:=by
       cases hq:decide (id=root)
       ·rw[hq]at hfl
        right
        simp at hfl
        omega
       ·exact .inl rfl
      split at h
      ·rename_i hl
       simp only[Prod.mk.injEq,decide_eq_true_eq]at h
       obtain⟨h1,h2,h3⟩:=h
       rw[fo_,if_pos hl]at hfill
       refine⟨0,[id],⟨p,hp,hl,hpb,ho',hfill,rfl⟩,h2.symm,by omega,fun q=>?_,by simp,fun i hi=>by rw[mem_singleton]at hi;rw[hi];exact hni⟩
       rw[if_neg (by omega)]at h1
       omega
      ·rename_i hl
       have hl':p.Leaf=false:=by simpa using hl
       obtain⟨n1,n2,n3,n4,n5,n6⟩:=d1_ hpb hl'
       rw[fo_,if_neg hl]at hfill
       have hrm:root∈met++[id]:=by
        rcases hroot with q|q
        ·rw[q];simp
        ·exact mem_append_left _ q
       obtain⟨h',ids,t1,t2,t3,t4,t5,t6⟩:=oD_ (p:=p) (low:=low) (high:=high) (T:=fun h kid lo hi m=>cB_ st h false kid lo hi m) (Q:=fun m=>root∈m) (fun a b q=>mem_append_left _ q) (d:=d+1)
        (fun kid lo hi m e m' e' hm hw=>by
          obtain⟨h',ids,t1,t2,t3,t4,t5,t6⟩:=oH_ hst n kid lo hi (d+1) m e m' e' (by omega) (.inr hm) hw
          have hkr:decide (kid=root)=false:=by
           rw[decide_eq_false_iff_not]
           intro e
           obtain⟨_,_,_,_,_,hin⟩:=t1.page
           exact t6 kid hin (e▸hm)
          rw[hkr]at t1
          exact⟨h',ids,t1,t2,t3,t4,t5,t6⟩) p.Kids 0 (met++[id]) dep met' dep' hrm rfl (by intro e;rw[e]at n2;simp at n2) n4 (by omega) h
       refine⟨h'+1,id::ids,⟨p,hp,hl',hpb,ho',hfill,ids,rfl,t1⟩,by rw[t2];simp,by omega,fun q=>by have:=t4 q;omega,?_,?_⟩
       ·rw[nodup_cons]
        exact⟨fun q=>t6 id q (by simp),t5⟩
       ·intro i hi
        rcases mem_cons.1 hi with q|q
        ·rw[q];exact hni
        ·exact fun z=>t6 i q (mem_append_left _ z)
structure j8_(b:af_)(h:Nat)(ids:List Int):Prop where
 slots:dF_ b.Slots=true
 tree:cB_ (aj_ b.Slots) h true b.Root ⟨#[]⟩ ⟨#[]⟩ ids
 nodup:ids.Nodup
 all:∀i,(aj_ b.Slots i).isSome=true→i∈ids
theorem ky_{sl:List ab_}(h:dF_ sl=true):ed_ sl :=
 pairwise_iff_getElem.2 fun i j hi hj hij=>iZ_ h j i hij hj
theorem vZ_:∀{a b:List Int},a.Nodup→a ⊆ b→a.length=b.length→b.Nodup→b ⊆ a:=by
 intro a b ha hab hl hb x hx
 by_cases h:x∈a
 ·exact h
 ·have h1:(x::a).Nodup:=nodup_cons.2 ⟨h,ha⟩
  have h2:(x::a) ⊆ b:=by
   intro y hy
   rcases mem_cons.1 hy with q|q
   ·rw[q];exact hx
   ·exact hab q
  have:=cI_ h1 h2
  simp only[lc_]at this
  omega
theorem jM_{b:af_}(h:dg_ b=true):∃(hh:Nat) (ids:List Int),j8_ b hh ids:=by
 rw[dg_,Bool.and_eq_true,Bool.and_eq_true,decide_eq_true_eq]at h
 obtain⟨h1,h2,h3⟩:=h
 obtain⟨bb,met',dep',e⟩:∃bb met' dep',jJ_ b=(bb,met',dep'):=⟨_,_,_,rfl⟩
 rw[e]at h2 h3
 simp only at h2 h3
 subst h2
 have hr:=ky_ h1
 obtain⟨hh,ids,t1,t2,t3,t4,t5,t6⟩:=oH_ (st:=aj_ b.Slots) (root:=b.Root) (fun id p hp=>(gb_ h1 (ff_ hp)).2.2) (b.Slots.length+1) b.Root ⟨#[]⟩ ⟨#[]⟩ 0 [] (-1) met' dep' (by omega) (.inl rfl) e
 rw[decide_eq_true rfl]at t1
 rw[nil_append]at t2
 subst t2
 refine⟨hh,met',h1,t1,t5,fun i hi=>?_⟩
 have hsub:met' ⊆ b.Slots.map ab_.Id:=by
  intro j hj
  have:=t1.has j hj
  obtain⟨p,hp⟩:=Option.isSome_iff_exists.1 this
  exact mem_map.2 ⟨_,ff_ hp,rfl⟩
 obtain⟨p,hp⟩:=Option.isSome_iff_exists.1 hi
 exact vZ_ t5 hsub (by rw[length_map];omega) (jK_ h1) (mem_map.2 ⟨_,ff_ hp,rfl⟩)
def aH_(p:am_)(has:Bool)(at':Nat)(key value:ByteArray):am_ :=
 if has=true then⟨p.Leaf,p.Keys,p.Vals.set at' value,p.Kids⟩else⟨p.Leaf,p.Keys.take at'++key::p.Keys.drop at',p.Vals.take at'++value::p.Vals.drop at',p.Kids⟩
def bt0:af_:=⟨0,[]⟩
structure c2_(sl:List ab_):Prop where
 rise:ed_ sl
 pgs:∀id p,aj_ sl id=some p→1≤id∧id≤64∧shapeP p
theorem c2_.set{sl:List ab_}(h:c2_ sl){s:ab_}(h1:1≤s.Id∧s.Id≤64∧shapeP s.Page):c2_ (ax_ s false sl) :=
 ⟨mj_ h.rise,fun id p hp=>by
  rw[cr_ h.rise]at hp
  split at hp
  ·rename_i q
   have:=Option.some.inj hp
   subst q this
   exact h1
  ·exact h.pgs id p hp⟩
theorem ed_.ids{sl:List ab_}(h:ed_ sl):(sl.map ab_.Id).Nodup:=by
 refine pairwise_map.2 (List.Pairwise.imp (fun hab=>?_) h)
 omega
theorem c2_.len{sl:List ab_}(h:c2_ sl):sl.length≤64:=by
 have h1:(sl.map ab_.Id) ⊆ (List.range 64).map (fun(k:Nat)=>(k:Int)+1):=by
  intro i hi
  obtain⟨s,hs,rfl⟩:=mem_map.1 hi
  obtain⟨a,b,_⟩:=h.pgs _ _ (n8_ h.rise hs)
  exact mem_map.2 ⟨(s.Id-1).toNat,by simp;omega,by omega⟩
 have:=cI_ h.rise.ids h1
 simpa using this
theorem c2_.page{sl:List ab_}(h:c2_ sl){s:ab_}(hs:s∈sl):shapeP s.Page:=(h.pgs _ _ (n8_ h.rise hs)).2.2
theorem j8_.ok{b:af_}{h:Nat}{ids:List Int}(r:j8_ b h ids):c2_ b.Slots :=
 ⟨ky_ r.slots,fun id p hp=>by
  obtain⟨h1,h2,h3⟩:=gb_ r.slots (ff_ hp)
  exact⟨h1,h2,eP_ h3⟩⟩
structure dq_(sl sl':List ab_)(ids:List Int):Prop where
 ok:c2_ sl'
 kept:∀j,j∉ids→(aj_ sl j).isSome=true→aj_ sl' j=aj_ sl j
 dom:∀j,(aj_ sl j).isSome=true→(aj_ sl' j).isSome=true
theorem dq_.refl{sl:List ab_}(h:c2_ sl)(ids:List Int):dq_ sl sl ids:=⟨h,fun _ _ _=>rfl,fun _ h=>h⟩
theorem dq_.trans{sl sl1 sl2:List ab_}{i1 i2 ids:List Int}(a:dq_ sl sl1 i1)(b:dq_ sl1 sl2 i2)(h1:∀i∈i1,i∈ids)(h2:∀i∈i2,i∈ids):dq_ sl sl2 ids :=
 ⟨b.ok,fun j hj hs=>(b.kept j (fun q=>hj (h2 j q)) (a.dom j hs)).trans (a.kept j (fun q=>hj (h1 j q)) hs),fun j hs=>b.dom j (a.dom j hs)⟩
theorem dq_.set{sl:List ab_}(h:c2_ sl){s:ab_}(h1:1≤s.Id∧s.Id≤64∧shapeP s.Page):dq_ sl (ax_ s false sl) [s.Id]:=by
 refine⟨h.set h1,fun j hj _=>?_,fun j hj=>?_⟩
 ·rw[cr_ h.rise,if_neg (fun e=>hj (by rw[←e];exact mem_cons_self))]
 ·rw[cr_ h.rise]
  split
  ·rfl
  ·exact hj
theorem dq_.add{sl:List ab_}(h:c2_ sl){s:ab_}(h1:1≤s.Id∧s.Id≤64∧shapeP s.Page)(hn:aj_ sl s.Id=none)(ids:List Int):dq_ sl (ax_ s false sl) ids:=by
 refine⟨h.set h1,fun j _ hj=>?_,fun j hj=>?_⟩
 ·rw[cr_ h.rise,if_neg (fun e=>by rw[←e,hn]at hj;cases hj)]
 ·rw[cr_ h.rise]
  split
  ·rfl
  ·exact hj
def cN_(sl:List ab_)(id:Int):List ab_×ByteArray×Int×Int :=
 match aj_ sl id with
 | none=>(sl,⟨#[]⟩,0,0)
 | some p=>if b2_ p=false then(sl,⟨#[]⟩,0,0)
  else if aO_ (aj_ sl) 64=0 then(ax_ ⟨id,(a5_ p).1⟩ false sl,⟨#[]⟩,0,4)
  else(up2 sl id p,(a5_ p).2.2,aO_ (aj_ sl) 64,0)
def bO_:Nat→List ab_→Int→ByteArray→ByteArray→List ab_×ByteArray×Int×Int
 | 0,sl,_,_,_=>(sl,⟨#[]⟩,0,0)
 | n+1,sl,id,key,value=>match aj_ sl id with
  | none=>(sl,⟨#[]⟩,0,0)
  | some p =>
   if p.Leaf=true then cN_ (ax_ ⟨id,aH_ p (aI_ p key).2 (aI_ p key).1 key value⟩ false sl) id
   else if(bO_ n sl (p.Kids.getD (aI_ p key).1 0) key value).2.2.2≠0 then((bO_ n sl (p.Kids.getD (aI_ p key).1 0) key value).1,⟨#[]⟩,0,(bO_ n sl (p.Kids.getD (aI_ p key).1 0) key value).2.2.2)
   else if(bO_ n sl (p.Kids.getD (aI_ p key).1 0) key value).2.2.1=0 then((bO_ n sl (p.Kids.getD (aI_ p key).1 0) key value).1,⟨#[]⟩,0,0)
   else cN_ (ax_ ⟨id,a6_ p (aI_ p key).1 (bO_ n sl (p.Kids.getD (aI_ p key).1 0) key value).2.1 (bO_ n sl (p.Kids.getD (aI_ p key).1 0) key value).2.2.1⟩ false (bO_ n sl (p.Kids.getD (aI_ p key).1 0) key value).1) id
theorem dS_{n:Nat}{sl:List ab_}{id:Int}{key value:ByteArray}{p:am_}(hp:aj_ sl id=some p)(hl:p.Leaf=true):bO_ (n+1) sl id key value=cN_ (ax_ ⟨id,aH_ p (aI_ p key).2 (aI_ p key).1 key value⟩ false sl) id:=by
 rw[bO_,hp];simp only[hl,if_true]
theorem lp_{n:Nat}{sl:List ab_}{id:Int}{key value:ByteArray}{p:am_}{sl':List ab_}{sep:ByteArray}{new code:Int}(hp:aj_ sl id=some p)(hl:p.Leaf=false)(hr:bO_ n sl (p.Kids.getD (aI_ p key).1 0) key value=(sl',sep,new,code)) :
 bO_ (n+1) sl id key value=if code≠0 then(sl',⟨#[]⟩,0,code)else if new=0 then(sl',⟨#[]⟩,0,0)else cN_ (ax_ ⟨id,a6_ p (aI_ p key).1 sep new⟩ false sl') id:=by
 rw[bO_,hp];simp only[hl,Bool.false_eq_true,if_false,hr]
theorem i1_{p:am_}(h:bk_ p=true)(hl:p.Leaf=true){key value:ByteArray}(hk:ci_ key=true)(hv:value.size≤64):shapeP (aH_ p (aI_ p key).2 (aI_ p key).1 key value):=by
 obtain⟨_,h1,h2,h3,_⟩:=ex_ h hl
 have hle:=gF_ p key
 have hl2:(aH_ p (aI_ p key).2 (aI_ p key).1 key value).Leaf=true:=by unfold aH_;split<;>exact hl
 have hsh:=eP_ h
 refine⟨fun _=>?_,fun e=>(by rw[hl2]at e;cases e),?_,?_⟩
 rotate_left
 ·intro k hk2
  unfold aH_ at hk2
  split at hk2
  ·exact hsh.2.2.1 k hk2
  ·simp only[mem_append,mem_cons]at hk2
   rcases hk2 with q|q|q
   ·exact hsh.2.2.1 k (mem_of_mem_take q)
   ·rw[q];exact hk
   ·exact hsh.2.2.1 k (mem_of_mem_drop q)
 ·intro v hv2
  unfold aH_ at hv2
  split at hv2
  ·rcases mem_or_eq_of_mem_set hv2 with q|q
   ·exact hsh.2.2.2 v q
   ·rw[q];exact hv
  ·simp only[mem_append,mem_cons]at hv2
   rcases hv2 with q|q|q
   ·exact hsh.2.2.2 v (mem_of_mem_take q)
   ·rw[q];exact hv
   ·exact hsh.2.2.2 v (mem_of_mem_drop q)
 unfold aH_
 split
 ·exact⟨by simp[h2],h3,by show p.Keys.length≤7;omega⟩
 ·refine⟨?_,h3,?_⟩<;>simp only[la_,lc_,length_take,length_drop]<;>omega
theorem jF_{p:am_}(h:bk_ p=true)(hl:p.Leaf=false)(key:ByteArray){sep:ByteArray}(hs:ci_ sep=true)(new:Int):shapeP (a6_ p (aI_ p key).1 sep new):=by
 obtain⟨_,_,h1,h2,h3,_⟩:=d1_ h hl
 have hle:=gF_ p key
 refine⟨fun e=>(by rw[show(a6_ p (aI_ p key).1 sep new).Leaf=p.Leaf from rfl,hl]at e;cases e),fun _=>⟨?_,h3,?_⟩,fun k hk=>?_,fun v hv=>(eP_ h).2.2.2 v hv⟩
 rotate_left 2
 ·simp only[a6_,mem_append,mem_cons]at hk
  rcases hk with q|q|q
  ·exact(eP_ h).2.2.1 k (mem_of_mem_take q)
  ·rw[q];exact hs
  ·exact(eP_ h).2.2.1 k (mem_of_mem_drop q)
 all_goals simp only[a6_,la_,lc_,length_take,length_drop];omega
theorem pg_{sl:List ab_}{id:Int}{p:am_}(h:c2_ sl)(hp:aj_ sl id=some p):dq_ sl (cN_ sl id).1 [id]∧((cN_ sl id).2.2.1≠0→ci_ (cN_ sl id).2.1=true):=by
 obtain⟨i1,i2,hs⟩:=h.pgs id p hp
 rw[cN_,hp]
 simp only
 split
 ·exact⟨dq_.refl h _,fun e=>absurd rfl e⟩
 ·rename_i hf
  have hf':b2_ p=true:=by simpa using hf
  obtain⟨s1,s2⟩:=qu_ hs hf'
  split
  ·exact⟨dq_.set h (s:=⟨id,(a5_ p).1⟩) ⟨i1,i2,s1⟩,fun e=>absurd rfl e⟩
  ·rename_i hn
   rcases g6_ (st:=aj_ sl) 64 (Nat.le_refl _)with q|⟨q1,q2,q3⟩
   ·exact absurd q hn
   ·have g1:=dq_.set h (s:=⟨id,(a5_ p).1⟩) ⟨i1,i2,s1⟩
    have hne:id≠aO_ (aj_ sl) 64:=fun e=>by rw[←e,hp]at q3;cases q3
    have g2:=dq_.add g1.ok (s:=⟨aO_ (aj_ sl) 64,(a5_ p).2.1⟩) ⟨q1,q2,s2⟩ (by rw[cr_ h.rise,if_neg hne];exact q3) [id]
    exact⟨g1.trans g2 (fun _ q=>q) (fun _ q=>q),fun _=>sr_ hs hf'⟩
theorem cB_.kid{st:c4_}{h:Nat}{top:Bool}{id:Int}{low high:ByteArray}{ids:List Int}{p:am_}(t:cB_ st (h+1) top id low high ids)(hn:ids.Nodup)(hp:st id=some p)(key:ByteArray):p.Leaf=false∧bk_ p=true∧(aI_ p key).1<p.Kids.length∧∃m lo hi,cB_ st h false (p.Kids.getD (aI_ p key).1 0) lo hi m∧m.Nodup∧id∉m∧∀i∈m,i∈ids:=by
 obtain⟨p',h1,h2,h3,h4,h5,r,h6,h7⟩:=t
 rw[hp]at h1
 have:=Option.some.inj h1
 subst this
 obtain⟨_,n1,n2,n3,n4,n5⟩:=d1_ h3 h2
 have hle:=gF_ p key
 have hlt:(aI_ p key).1<p.Kids.length:=by omega
 obtain⟨a,m,b,e,t⟩:=cO_.get _ hlt h7
 have hgd:p.Kids.getD (aI_ p key).1 0=p.Kids[(aI_ p key).1]:=by rw[getD_eq_getElem?_getD,getElem?_eq_getElem hlt];rfl
 rw[h6,e]at hn
 obtain⟨d1,d2⟩:=nodup_cons.1 hn
 have d3:=(nodup_append.1 (nodup_append.1 d2).2.1).1
 refine⟨h2,h3,hlt,m,_,_,by rw[hgd];exact t,d3,fun q=>d1 (mem_append_right _ (mem_append_left _ q)),fun i hi=>?_⟩
 rw[h6,e]
 exact mem_cons_of_mem _ (mem_append_right _ (mem_append_left _ hi))
theorem ha_{key value:ByteArray}(hk:ci_ key=true)(hv:value.size≤64):∀(h n:Nat) (sl:List ab_) (top:Bool) (id:Int) (low high:ByteArray) (ids:List Int),h<n→c2_ sl→cB_ (aj_ sl) h top id low high ids→ids.Nodup→dq_ sl (bO_ n sl id key value).1 ids∧((bO_ n sl id key value).2.2.1≠0→ci_ (bO_ n sl id key value).2.1=true)
 | h,0,_,_,_,_,_,_,hn,_,_,_=>absurd hn (Nat.not_lt_zero _)
 | 0,n+1,sl,top,id,low,high,ids,hn,ok,t,nd=>by
  obtain⟨p,hp,hb,ho,hl,hin⟩:=t.page
  have hl:p.Leaf=true:=by rw[hl];rfl
  obtain⟨i1,i2,hs⟩:=ok.pgs id p hp
  rw[dS_ hp hl]
  have g1:=dq_.set ok (s:=⟨id,aH_ p (aI_ p key).2 (aI_ p key).1 key value⟩) ⟨i1,i2,i1_ hb hl hk hv⟩
  obtain⟨g2,g3⟩:=pg_ (id:=id) (p:=aH_ p (aI_ p key).2 (aI_ p key).1 key value) g1.ok (by rw[cr_ ok.rise,if_pos rfl])
  have hsub:∀i∈[id],i∈ids:=fun i hi=>by rw[mem_singleton]at hi;rw[hi];exact hin
  exact⟨g1.trans g2 hsub hsub,g3⟩
 | h+1,n+1,sl,top,id,low,high,ids,hn,ok,t,nd=>by
  obtain⟨p,hp,_,ho,_,hin⟩:=t.page
  obtain⟨hl,hb,hlt,m,lo,hi,tk,ndm,hnm,hsub⟩:=t.kid nd hp key
  obtain⟨i1,i2,hs⟩:=ok.pgs id p hp
  have ih:=ha_ hk hv h n sl false _ lo hi m (by omega) ok tk ndm
  obtain⟨sl',sep,new,code,hr⟩:∃sl' sep new code,bO_ n sl (p.Kids.getD (aI_ p key).1 0) key value=(sl',sep,new,code):=⟨_,_,_,_,rfl⟩
  rw[lp_ hp hl hr]
  rw[hr]at ih
  obtain⟨ih,ihs⟩:=ih
  have g0:dq_ sl sl' ids:=⟨ih.ok,fun j hj hs=>ih.kept j (fun q=>hj (hsub j q)) hs,ih.dom⟩
  split
  ·exact⟨g0,fun e=>absurd rfl e⟩
  ·split
   ·exact⟨g0,fun e=>absurd rfl e⟩
   ·rename_i hnz
    have g1:=dq_.set g0.ok (s:=⟨id,a6_ p (aI_ p key).1 sep new⟩) ⟨i1,i2,jF_ hb hl key (ihs hnz) new⟩
    obtain⟨g2,g3⟩:=pg_ (id:=id) (p:=a6_ p (aI_ p key).1 sep new) g1.ok (by rw[cr_ g0.ok.rise,if_pos rfl])
    have hsub:∀i∈[id],i∈ids:=fun i hi=>by rw[mem_singleton]at hi;rw[hi];exact hin
    exact⟨g0.trans (g1.trans g2 (fun _ q=>q) (fun _ q=>q)) (fun _ q=>q) hsub,g3⟩
def eF_(n:Nat)(b:af_)(key value:ByteArray):af_×Int :=
 if(bO_ n b.Slots b.Root key value).2.2.2≠0 then(⟨b.Root,(bO_ n b.Slots b.Root key value).1⟩,(bO_ n b.Slots b.Root key value).2.2.2)
 else if(bO_ n b.Slots b.Root key value).2.2.1=0 then(⟨b.Root,(bO_ n b.Slots b.Root key value).1⟩,0)
 else if aO_ (aj_ (bO_ n b.Slots b.Root key value).1) 64=0 then(⟨b.Root,(bO_ n b.Slots b.Root key value).1⟩,4)
 else(⟨aO_ (aj_ (bO_ n b.Slots b.Root key value).1) 64,ax_ ⟨aO_ (aj_ (bO_ n b.Slots b.Root key value).1) 64,fQ_ (bO_ n b.Slots b.Root key value).2.1 b.Root (bO_ n b.Slots b.Root key value).2.2.1⟩ false (bO_ n b.Slots b.Root key value).1⟩,0)
def je_(way:List (Int×Nat))(root:Int)(k:Nat)(sl:List ab_)(sep:ByteArray)(new:Int):List ab_×Int×Int :=
 if k=0 then(if aO_ (aj_ sl) 64=0 then(sl,root,4)else(ax_ ⟨aO_ (aj_ sl) 64,fQ_ sep (way.getD 0 (0,0)).1 new⟩ false sl,aO_ (aj_ sl) 64,0))
 else match aj_ sl (way.getD (k-1) (0,0)).1 with
  | none=>(sl,root,0)
  | some u=>upF way root k (ax_ ⟨(way.getD (k-1) (0,0)).1,a6_ u (way.getD (k-1) (0,0)).2 sep new⟩ false sl)
theorem v0_(way:List (Int×Nat))(root:Int)(k:Nat)(sl:List ab_)(p:am_)(hp:aj_ sl (way.getD k (0,0)).1=some p)(hs:aO_ (aj_ sl) 64≠0→k≠0→(aj_ (up2 sl (way.getD k (0,0)).1 p) (way.getD (k-1) (0,0)).1).isSome=true):upF way root (k+1) sl=if b2_ p=false then(sl,root,0)else if aO_ (aj_ sl) 64=0 then(sl,root,4)else je_ way root k (up2 sl (way.getD k (0,0)).1 p) (a5_ p).2.2 (aO_ (aj_ sl) 64):=by
 rw[upF,hp]
 simp only
 by_cases h1:b2_ p=false
 ·rw[if_pos h1,if_pos h1]
 ·rw[if_neg h1,if_neg h1]
  by_cases h2:aO_ (aj_ sl) 64=0
  ·rw[if_pos h2,if_pos h2]
  ·rw[if_neg h2,if_neg h2,je_]
   by_cases h3:k=0
   ·subst h3;rfl
   ·rw[if_neg h3,if_neg h3]
    obtain⟨u,hu⟩:=Option.isSome_iff_exists.1 (hs h2 h3)
    rw[hu]
def x4_(way:List (Int×Nat))(root:Int)(k:Nat)(r:List ab_×ByteArray×Int×Int)(u:List ab_×Int×Int):Prop :=
 (r.2.2.2≠0→u.2.2=r.2.2.2)∧(r.2.2.2=0→r.2.2.1=0→u=(r.1,root,0))∧(r.2.2.2=0→r.2.2.1≠0→(k≠0→(aj_ r.1 (way.getD (k-1) (0,0)).1).isSome=true)→u=je_ way root k r.1 r.2.1 r.2.2.1)
theorem oF_{way:List (Int×Nat)}{root:Int}{k:Nat}{sl:List ab_}{p:am_}(hp:aj_ sl (way.getD k (0,0)).1=some p):x4_ way root k (cN_ sl (way.getD k (0,0)).1) (upF way root (k+1) sl):=by
 have hu:=v0_ way root k sl p hp
 rw[cN_,hp]
 simp only
 by_cases h1:b2_ p=false
 ·have hu0:upF way root (k+1) sl=(sl,root,0):=by rw[upF,hp];simp only[h1,if_true]
  rw[if_pos h1,hu0]
  exact⟨fun e=>absurd rfl e,fun _ _=>rfl,fun _ e=>absurd rfl e⟩
 ·by_cases h2:aO_ (aj_ sl) 64=0
  ·have hu0:=hu (fun e=>absurd h2 e)
   rw[if_neg h1,if_pos h2]at hu0
   rw[if_neg h1,if_pos h2,hu0]
   exact⟨fun _=>rfl,fun e=>by simp at e,fun e=>by simp at e⟩
  ·rw[if_neg h1,if_neg h2]
   refine⟨fun e=>absurd rfl e,fun _ e=>absurd e h2,fun _ _ h3=>?_⟩
   have hu0:=hu (fun _=>h3)
   rw[if_neg h1,if_neg h2]at hu0
   exact hu0
def pW_(way:List (Int×Nat))(k:Nat)(r:List ab_×ByteArray×Int×Int):Prop :=
 r.2.2.2=0→r.2.2.1≠0→k≠0→∃u,aj_ r.1 (way.getD (k-1) (0,0)).1=some u∧smallP u∧(way.getD (k-1) (0,0)).2≤u.Keys.length∧(way.getD (k-1) (0,0)).2+1≤u.Kids.length ∧
  my_ way k (ax_ ⟨(way.getD (k-1) (0,0)).1,a6_ u (way.getD (k-1) (0,0)).2 r.2.1 r.2.2.1⟩ false r.1)
theorem qK_{way:List (Int×Nat)}{k:Nat}{sl:List ab_}{p:am_}(ok:c2_ sl)(hp:aj_ sl (way.getD k (0,0)).1=some p)(hn:pW_ way k (cN_ sl (way.getD k (0,0)).1)):my_ way (k+1) sl:=by
 obtain⟨_,_,hs⟩:=ok.pgs _ _ hp
 have hl:=ok.len
 refine⟨by omega,p,hp,hs.smallP,fun hf=>⟨fun h=>?_,fun h=>?_,fun h1 h2=>?_⟩⟩
 ·have:=j2_ hs h hf
  have:=(hs.1 h).1
  omega
 ·have:=ju_ hs h hf
  omega
 ·rw[cN_,hp]at hn
  simp only[hf,Bool.true_eq_false,if_false,h1,pW_]at hn
  exact hn trivial h1 h2
theorem qN_{α:Type}(a:List α)(x:α)(b:List α)(d:α):(a++x::b).getD a.length d=x:=by
 rw[getD_eq_getElem?_getD,getElem?_append_right (Nat.le_refl _),Nat.sub_self];rfl
theorem kq_{key value:ByteArray}(hk:ci_ key=true)(hv:value.size≤64)(root:Int):∀(h n:Nat) (sl:List ab_) (top:Bool) (id:Int) (low high:ByteArray) (ids:List Int),h<n→c2_ sl→cB_ (aj_ sl) h top id low high ids→ids.Nodup →
 lE_ (aj_ sl) key n id∧∃(q:List (Int×Nat)) (lf:Int×Nat) (has:Bool) (p:am_),cA_ (aj_ sl) key n id=(q++[lf],has)∧q.length=h∧aj_ sl lf.1=some p∧p.Leaf=true∧bk_ p=true∧lf.2=(aI_ p key).1∧has=(aI_ p key).2 ∧
  ∀pre w,w=pre++(q++[lf])→x4_ w root pre.length (bO_ n sl id key value) (upF w root w.length (ax_ ⟨lf.1,aH_ p has lf.2 key value⟩ false sl))∧(pW_ w pre.length (bO_ n sl id key value)→my_ w w.length (ax_ ⟨lf.1,aH_ p has lf.2 key value⟩ false sl))
 | h,0,_,_,_,_,_,_,hn,_,_,_=>absurd hn (Nat.not_lt_zero _)
 | 0,n+1,sl,top,id,low,high,ids,hn,ok,t,nd=>by
  obtain⟨p,hp,hb,ho,hl,hin⟩:=t.page
  have hl:p.Leaf=true:=by rw[hl];rfl
  obtain⟨i1,i2,hs⟩:=ok.pgs id p hp
  have hsm:=hs.smallP
  have hw:cA_ (aj_ sl) key (n+1) id=([(id,(aI_ p key).1)],(aI_ p key).2):=by rw[cA_,hp];simp[hl]
  refine⟨⟨p,hp,hsm.1,.inl hl⟩,[],(id,(aI_ p key).1),(aI_ p key).2,p,hw,rfl,hp,hl,hb,rfl,rfl,fun pre w hw=>?_⟩
  have hg:w.getD pre.length (0,0)=(id,(aI_ p key).1):=by rw[hw];exact qN_ _ _ _ _
  have hlen:w.length=pre.length+1:=by rw[hw];simp
  have ok1:=ok.set (s:=⟨id,aH_ p (aI_ p key).2 (aI_ p key).1 key value⟩) ⟨i1,i2,i1_ hb hl hk hv⟩
  have hp1:aj_ (ax_ ⟨id,aH_ p (aI_ p key).2 (aI_ p key).1 key value⟩ false sl) (w.getD pre.length (0,0)).1=some (aH_ p (aI_ p key).2 (aI_ p key).1 key value):=by rw[hg,cr_ ok.rise,if_pos rfl]
  have m:=oF_ (root:=root) hp1
  have u:=qK_ ok1 hp1
  rw[hg]at m u
  rw[hlen,dS_ hp hl]
  exact⟨m,u⟩
 | h+1,n+1,sl,top,id,low,high,ids,hn,ok,t,nd=>by
  obtain⟨p,hp,_,ho,_,hin⟩:=t.page
  obtain⟨hl,hb,hlt,m,lo,hi,tk,ndm,hnm,hsub⟩:=t.kid nd hp key
  obtain⟨i1,i2,hs⟩:=ok.pgs id p hp
  have hsm:=hs.smallP
  have hgd:p.Kids.getD (aI_ p key).1 0=p.Kids[(aI_ p key).1]:=by rw[getD_eq_getElem?_getD,getElem?_eq_getElem hlt];rfl
  have hg:=ha_ hk hv h n sl false _ lo hi m (by omega) ok tk ndm
  obtain⟨wok,q,lf,has,pl,e1,e2,e3,e4,e5,e6,e7,e8⟩:=kq_ hk hv root h n sl false _ lo hi m (by omega) ok tk ndm
  have hw:cA_ (aj_ sl) key (n+1) id=((id,(aI_ p key).1)::q++[lf],has):=by
   rw[cA_,hp]
   simp only[hl,Bool.false_eq_true,if_false,e1]
   rfl
  refine⟨⟨p,hp,hsm.1,.inr ⟨hlt,by rw[←hgd];exact wok⟩⟩,(id,(aI_ p key).1)::q,lf,has,pl,hw,by simp[e2],e3,e4,e5,e6,e7,fun pre w hw=>?_⟩
  obtain⟨m1,m2⟩:=e8 (pre++[(id,(aI_ p key).1)]) w (by rw[hw];simp)
  have hgw:w.getD pre.length (0,0)=(id,(aI_ p key).1):=by rw[hw];exact qN_ _ _ _ _
  obtain⟨sl',sep,new,code,hr⟩:∃sl' sep new code,bO_ n sl (p.Kids.getD (aI_ p key).1 0) key value=(sl',sep,new,code):=⟨_,_,_,_,rfl⟩
  rw[lp_ hp hl hr]
  rw[hr]at m1 m2 hg
  obtain⟨hg,hgs⟩:=hg
  rw[la_,length_singleton]at m1 m2
  have hp':aj_ sl' id=some p:=(hg.kept id hnm (by rw[hp];rfl)).trans hp
  by_cases hc:code=0
  ·rw[if_neg (by simpa using hc)]
   by_cases hz:new=0
   ·rw[if_pos hz]
    refine⟨⟨fun e=>absurd rfl e,fun _ _=>m1.2.1 hc hz,fun _ e=>absurd rfl e⟩,fun _=>m2 fun _ e=>absurd hz e⟩
   ·rw[if_neg hz]
    have ok1:=hg.ok.set (s:=⟨id,a6_ p (aI_ p key).1 sep new⟩) ⟨i1,i2,jF_ hb hl key (hgs hz) new⟩
    have hp1:aj_ (ax_ ⟨id,a6_ p (aI_ p key).1 sep new⟩ false sl') (w.getD pre.length (0,0)).1=some (a6_ p (aI_ p key).1 sep new):=by rw[hgw,cr_ hg.ok.rise,if_pos rfl]
    have mm:=oF_ (root:=root) hp1
    have u:=qK_ ok1 hp1
    rw[hgw]at mm u
    have ha:je_ w root (pre.length+1) sl' sep new=upF w root (pre.length+1) (ax_ ⟨id,a6_ p (aI_ p key).1 sep new⟩ false sl'):=by
     rw[je_,if_neg (by omega),Nat.add_sub_cancel,hgw,hp']
    have m3:=m1.2.2 hc hz (fun _=>by rw[Nat.add_sub_cancel,hgw,hp'];rfl)
    simp only at m3
    rw[ha]at m3
    rw[m3]
    refine⟨mm,fun hnx=>m2 fun _ _ _=>⟨p,?_,hsm,?_,?_,?_⟩⟩
    ·rw[Nat.add_sub_cancel,hgw];exact hp'
    ·rw[Nat.add_sub_cancel,hgw];exact gF_ p key
    ·rw[Nat.add_sub_cancel,hgw];exact hlt
    ·rw[Nat.add_sub_cancel,hgw];exact u hnx
  ·rw[if_pos hc]
   refine⟨⟨fun _=>m1.1 hc,fun e=>absurd e hc,fun e=>absurd e hc⟩,fun _=>m2 fun e=>absurd e hc⟩
def mc_(n:Nat)(b:af_)(key value:ByteArray):af_×Int :=
 match(cA_ (aj_ b.Slots) key n b.Root).1.getLast? with
 | none=>(bt0,0)
 | some leaf=>match aj_ b.Slots leaf.1 with
  | none=>(bt0,0)
  | some p =>
   if(upF (cA_ (aj_ b.Slots) key n b.Root).1 b.Root (cA_ (aj_ b.Slots) key n b.Root).1.length (ax_ ⟨leaf.1,aH_ p (cA_ (aj_ b.Slots) key n b.Root).2 leaf.2 key value⟩ false b.Slots)).2.2=0 then
    (⟨(upF (cA_ (aj_ b.Slots) key n b.Root).1 b.Root (cA_ (aj_ b.Slots) key n b.Root).1.length (ax_ ⟨leaf.1,aH_ p (cA_ (aj_ b.Slots) key n b.Root).2 leaf.2 key value⟩ false b.Slots)).2.1,(upF (cA_ (aj_ b.Slots) key n b.Root).1 b.Root (cA_ (aj_ b.Slots) key n b.Root).1.length (ax_ ⟨leaf.1,aH_ p (cA_ (aj_ b.Slots) key n b.Root).2 leaf.2 key value⟩ false b.Slots)).1⟩,0)
   else(bt0,(upF (cA_ (aj_ b.Slots) key n b.Root).1 b.Root (cA_ (aj_ b.Slots) key n b.Root).1.length (ax_ ⟨leaf.1,aH_ p (cA_ (aj_ b.Slots) key n b.Root).2 leaf.2 key value⟩ false b.Slots)).2.2)
structure Fit(b:af_)(h:Nat)(ids:List Int):Prop where
 ok:c2_ b.Slots
 tree:cB_ (aj_ b.Slots) h true b.Root ⟨#[]⟩ ⟨#[]⟩ ids
 nodup:ids.Nodup
theorem j8_.fit{b:af_}{h:Nat}{ids:List Int}(r:j8_ b h ids):Fit b h ids:=⟨r.ok,r.tree,r.nodup⟩
theorem tV_{b:af_}{h n:Nat}{ids:List Int}(f:Fit b h ids)(hn:h<n){key value:ByteArray}(hk:ci_ key=true)(hv:value.size≤64):mc_ n b key value=if(eF_ n b key value).2=0 then((eF_ n b key value).1,0)else(bt0,(eF_ n b key value).2):=by
 obtain⟨wok,q,lf,has,p,e1,e2,e3,e4,e5,e6,e7,e8⟩:=kq_ hk hv b.Root h n b.Slots true b.Root _ _ ids hn f.ok f.tree f.nodup
 obtain⟨m1,m2⟩:=e8 [] (q++[lf]) rfl
 unfold mc_
 rw[e1]
 simp only[getLast?_append,getLast?_singleton,Option.some_or,e3]
 generalize upF (q++[lf]) b.Root (q++[lf]).length (ax_ ⟨lf.1,aH_ p has lf.2 key value⟩ false b.Slots)=U at *
 have hroot:((q++[lf]).getD 0 (0,0)).1=b.Root:=by
  have:∃x r,cA_ (aj_ b.Slots) key n b.Root=((b.Root,x)::r,has):=by
   obtain⟨p0,hp0,_⟩:=f.tree.page
   cases n with
   | zero=>omega
   | succ n =>
    have:=e1
    rw[cA_,hp0]at this⊢
    simp only at this⊢
    split at this
    ·rename_i hl
     rw[if_pos hl]
     exact⟨_,_,by rw[(Prod.mk.inj this).2]⟩
    ·rename_i hl
     rw[if_neg hl]
     exact⟨_,_,by rw[(Prod.mk.inj this).2]⟩
  obtain⟨x,r,e⟩:=this
  rw[e1]at e
  rw[(Prod.mk.inj e).1];rfl
 obtain⟨sl',sep,new,code,hr⟩:∃sl' sep new code,bO_ n b.Slots b.Root key value=(sl',sep,new,code):=⟨_,_,_,_,rfl⟩
 have hI:eF_ n b key value=if code≠0 then(⟨b.Root,sl'⟩,code)else if new=0 then(⟨b.Root,sl'⟩,0)else if aO_ (aj_ sl') 64=0 then(⟨b.Root,sl'⟩,4)else(⟨aO_ (aj_ sl') 64,ax_ ⟨aO_ (aj_ sl') 64,fQ_ sep b.Root new⟩ false sl'⟩,0):=by
  unfold eF_;rw[hr]
 rw[hr]at m1
 by_cases hc:code=0
 ·rw[if_neg (by simpa using hc)]at hI
  by_cases hz:new=0
  ·have:=m1.2.1 hc hz
   rw[if_pos hz]at hI
   rw[this,hI]
   try simp
  ·have:=m1.2.2 hc hz (fun e=>absurd rfl e)
   rw[if_neg hz]at hI
   rw[this,hI]
   simp only[je_,ln_,if_true,hroot]
   by_cases hw:aO_ (aj_ sl') 64=0
   ·simp[hw]
   ·simp[hw]
 ·have:=m1.1 hc
  simp only at this
  rw[if_pos hc]at hI
  rw[hI,this,if_neg hc,if_neg hc]
theorem if_{α:Type}{es:List α}{i m:Nat}(hi:i<m):(List.take (m+1-(i+1)) (List.drop i (List.take (m+1) es)))=(es.take m).drop i:=by
 rw[drop_take,drop_take,take_take]
 congr 1;omega
theorem f7_(a b:Nat):Nat.min a b=min a b:=rfl
def jB_:LC :=
 .q [.o [.nl 6],.o [.m 10 0,.m 11 1,.s 12 (.sliceSl 1 (.tmp 10) (some (.tmp 11)) none)],.o [.m 13 2,.ll 14 13,.m 7 14],.q [.o [.m 15 7,.bk 16 .eql false 15 0],.k 16 (.q [.o [.m 17 0,.m 6 17],.ghost .ret])
 .skip],.o [.m 18 0,.ll 19 18,.m 8 19],.q [.o [.m 20 1,.m 21 8,.bb 22 .eql false 20 21],.k 22 (.q [.o [.m 23 0,.m 24 2,.ap 25 9 1 16 23 24,.m 6 25],.ghost .ret]) .skip],.q [.o [.m 26 8,.m 27 7,.bb 28 .add
 false 26 27,.m 29 0,.s 30 (.capSl (.tmp 29)),.bb 31 .gtr false 28 30],.k 31 (.q [.o [.m 32 0,.m 33 1,.s 34 (.sliceSl 1 (.tmp 32) none (some (.tmp 33))),.m 35 8,.m 36 7,.bb 37 .add false 35 36,.m 38 1,.bb 39
 .sub false 37 38,.s 40 (.appendZ 9 1 16 (.string ⟨#[]⟩) (.tmp 34) (.tmp 39)),.m 9 40],.o [.m 41 9,.m 42 1,.s 43 (.sliceSl 1 (.tmp 41) (some (.tmp 42)) none),.m 44 2,.s 45 (.copySl 1 (.tmp 43) (.tmp 44))],.gops
 [.m 46 9,.m 47 1,.m 48 7,.bb 49 .add false 47 48,.s 50 (.sliceSl 1 (.tmp 46) (some (.tmp 49)) none),.m 51 0,.m 52 1,.s 53 (.sliceSl 1 (.tmp 51) (some (.tmp 52)) none)] [(.s 54 (.copySl 1 (.tmp 50) (.tmp 53)),
 [])],.o [.m 55 9,.m 6 55],.ghost .ret]) .skip],.o [.m 56 0,.m 57 8,.m 58 7,.bb 59 .add false 57 58,.s 60 (.sliceSl 1 (.tmp 56) none (some (.tmp 59))),.m 0 60],.q [.o [.m 61 2,.m 62 0,.m 63 1,.m 64 7,.bb 65
 .add false 63 64,.s 66 (.sliceSl 1 (.tmp 62) (some (.tmp 65)) none),.s 67 (.ovl (.tmp 61) (.tmp 66)),.nt 68 67],.k 68 (.q [.gops [.m 69 0,.m 70 1,.m 71 7,.bb 72 .add false 70 71,.s 73 (.sliceSl 1 (.tmp 69) (some
 (.tmp 72)) none),.m 74 0,.m 75 1,.s 76 (.sliceSl 1 (.tmp 74) (some (.tmp 75)) none)] [(.s 77 (.copySl 1 (.tmp 73) (.tmp 76)),[])],.o [.m 78 0,.m 79 1,.s 80 (.sliceSl 1 (.tmp 78) (some (.tmp 79)) none),.m 81 2,.s
 82 (.copySl 1 (.tmp 80) (.tmp 81))],.o [.m 83 0,.m 6 83],.ghost .ret]) .skip],.o [.m 84 0,.m 85 8,.s 86 (.sliceSl 1 (.tmp 84) (some (.tmp 85)) none),.m 87 2,.s 88 (.copySl 1 (.tmp 86) (.tmp 87))],.o [.m 89 0,.m
 90 1,.s 91 (.sliceSl 1 (.tmp 89) (some (.tmp 90)) none),.m 92 7,.c2 93 164 91 92],.o [.m 94 0,.m 6 94],.ghost .ret]
def hL_:LF:=⟨3,95,jB_,[.tmp 6]⟩
theorem t1_:aA_ Tryz.prog Tryz.f133 hL_:=as_
def jt_:LC :=
 .q [.o [.nl 6],.o [.m 10 0,.m 11 1,.s 12 (.sliceSl 1 (.tmp 10) (some (.tmp 11)) none)],.o [.m 13 2,.ll 14 13,.m 7 14],.q [.o [.m 15 7,.bk 16 .eql false 15 0],.k 16 (.q [.o [.m 17 0,.m 6 17],.ghost .ret])
 .skip],.o [.m 18 0,.ll 19 18,.m 8 19],.q [.o [.m 20 1,.m 21 8,.bb 22 .eql false 20 21],.k 22 (.q [.o [.m 23 0,.m 24 2,.ap 25 2 1 8 23 24,.m 6 25],.ghost .ret]) .skip],.q [.o [.m 26 8,.m 27 7,.bb 28 .add
 false 26 27,.m 29 0,.s 30 (.capSl (.tmp 29)),.bb 31 .gtr false 28 30],.k 31 (.q [.o [.m 32 0,.m 33 1,.s 34 (.sliceSl 1 (.tmp 32) none (some (.tmp 33))),.m 35 8,.m 36 7,.bb 37 .add false 35 36,.m 38 1,.bb 39
 .sub false 37 38,.s 40 (.appendZ 2 1 8 (.int .i64 0) (.tmp 34) (.tmp 39)),.m 9 40],.o [.m 41 9,.m 42 1,.s 43 (.sliceSl 1 (.tmp 41) (some (.tmp 42)) none),.m 44 2,.s 45 (.copySl 1 (.tmp 43) (.tmp 44))],.gops [.m
 46 9,.m 47 1,.m 48 7,.bb 49 .add false 47 48,.s 50 (.sliceSl 1 (.tmp 46) (some (.tmp 49)) none),.m 51 0,.m 52 1,.s 53 (.sliceSl 1 (.tmp 51) (some (.tmp 52)) none)] [(.s 54 (.copySl 1 (.tmp 50) (.tmp 53)),[])],.o
 [.m 55 9,.m 6 55],.ghost .ret]) .skip],.o [.m 56 0,.m 57 8,.m 58 7,.bb 59 .add false 57 58,.s 60 (.sliceSl 1 (.tmp 56) none (some (.tmp 59))),.m 0 60],.q [.o [.m 61 2,.m 62 0,.m 63 1,.m 64 7,.bb 65 .add
 false 63 64,.s 66 (.sliceSl 1 (.tmp 62) (some (.tmp 65)) none),.s 67 (.ovl (.tmp 61) (.tmp 66)),.nt 68 67],.k 68 (.q [.gops [.m 69 0,.m 70 1,.m 71 7,.bb 72 .add false 70 71,.s 73 (.sliceSl 1 (.tmp 69) (some (.tmp
 72)) none),.m 74 0,.m 75 1,.s 76 (.sliceSl 1 (.tmp 74) (some (.tmp 75)) none)] [(.s 77 (.copySl 1 (.tmp 73) (.tmp 76)),[])],.o [.m 78 0,.m 79 1,.s 80 (.sliceSl 1 (.tmp 78) (some (.tmp 79)) none),.m 81 2,.s 82
 (.copySl 1 (.tmp 80) (.tmp 81))],.o [.m 83 0,.m 6 83],.ghost .ret]) .skip],.o [.m 84 0,.m 85 8,.s 86 (.sliceSl 1 (.tmp 84) (some (.tmp 85)) none),.m 87 2,.s 88 (.copySl 1 (.tmp 86) (.tmp 87))],.o [.m 89 0,.m 90
 1,.s 91 (.sliceSl 1 (.tmp 89) (some (.tmp 90)) none),.m 92 7,.c2 93 166 91 92],.o [.m 94 0,.m 6 94],.ghost .ret]
def hG_:LF:=⟨3,95,jt_,[.tmp 6]⟩
theorem u0_:aA_ Tryz.prog Tryz.f134 hG_:=as_
theorem iP_{α:Type}{es:List α}{v:α}{lo i m N:Nat}(hN:es.length=N)(hi:i<m)(hm:lo+m<N) :
 List.take (lo+i) (List.take (lo+(i+1)) es++(List.take (lo+(m+1)-(lo+(i+1))) (List.drop (lo+i) (List.take (lo+(m+1)) es))++List.drop (lo+(i+1)+min (min (lo+(m+1)) N-(lo+i)) (lo+(m+1)-(lo+(i+1)))) es)) ++
  (List.take (lo+(m+1)-(lo+i)) [v]++List.drop (lo+i+min 1 (lo+(m+1)-(lo+i))) (List.take (lo+(i+1)) es++(List.take (lo+(m+1)-(lo+(i+1))) (List.drop (lo+i) (List.take (lo+(m+1)) es))++List.drop (lo+(i+1)+min (min (lo+(m+1)) N-(lo+i)) (lo+(m+1)-(lo+(i+1)))) es))) =
 es.take (lo+i)++v::((es.take (lo+m)).drop (lo+i)++es.drop (lo+m+1)):=by
 have e1:lo+(i+1)+min (min (lo+(m+1)) N-(lo+i)) (lo+(m+1)-(lo+(i+1)))=lo+m+1:=by omega
 have e2:lo+i+min 1 (lo+(m+1)-(lo+i))=lo+i+1:=by omega
 have e3:List.take (lo+(m+1)-(lo+i)) [v]=[v]:=take_of_length_le (by simp;omega)
 have e4:(List.take (lo+(i+1)) es).length=lo+i+1:=by rw[length_take];omega
 have e5:List.take (lo+(m+1)-(lo+(i+1))) (List.drop (lo+i) (List.take (lo+(m+1)) es))=(es.take (lo+m)).drop (lo+i):=if_ (i:=lo+i) (m:=lo+m) (by omega)
 rw[e1,e2,e3,e5,take_append_of_le_length (by omega),take_take,Nat.min_eq_left (by omega),drop_left' e4]
 rfl
set_option maxHeartbeats 1000000 in
theorem eV_{l N lo m lv i:Nat}{H:List Row}{es:List (List AV)}{v:List AV}(hr:H[l]?=some ⟨.ty 9,1,es⟩)(hN:es.length=N)(hm:lo+m<N)(hi:i≤m)(hm2:lo+m≤1073741824)(hc:∀e∈(es.take (lo+m)).drop (lo+i),e.all AV.cell=true)(hv:H[lv]?=some ⟨.ty 9,1,[v]⟩)(hvc:v.all AV.cell=true)(hlv:lv≠l)
 {K:AV→List Row→Prop} (hk:K (.sub l N lo (lo+m+1)) (H.set l ⟨.ty 9,1,es.take (lo+i)++v::((es.take (lo+m)).drop (lo+i)++es.drop (lo+m+1))⟩)):callSem Tryz.prog 133 [.sub l N lo (lo+m),.val (.int .i64 i),.own lv 1] H K:=by
 refine aF_ mixed Tryz.func133 t1_ (a9_ rfl ?_)
 have hll:=(List.getElem?_eq_some_iff.1 hr).1
 have hvl:=(List.getElem?_eq_some_iff.1 hv).1
 have hlm:lo+m-lo=m:=by omega
 by_cases hlo:lo=0
 ·subst hlo
  simp only[Nat.zero_add]at *
  by_cases him:i=m
  ·subst him
   have e1:(es.take i).drop i=[]:=drop_eq_nil_of_le (by rw[length_take];omega)
   rw[e1,nil_append]at hk
   have e2:i+1≤N:=hm
   simp(disch:=first|omega|simp only[lzz0_];first|done|omega)only[go_sem,reduceEqDiff,reduceLeDiff,reduceCtorEq,↓reduceIte,hL_,jB_,hr,hv,hN,hvc,e2,Nat.sub_zero,Nat.zero_add]
   refine⟨by omega,by omega,by omega,?_⟩
   refine bB_ _ _ b0_ ?_
   simp(disch:=first|omega|simp only[lzz0_];first|done|omega)only[go_sem,↓reduceIte]
   exact hk
  ·have him':((i:Int)=(m:Int))=False:=eq_false (by omega)
   simp(disch:=first|omega|simp only[lzz0_];first|done|omega)only[go_sem,reduceEqDiff,reduceCtorEq,↓reduceIte,hL_,jB_,hr,hv,hN,him',Nat.sub_zero,Nat.zero_add]
   refine⟨by decide,fun cap hcap=>?_⟩
   have hcf:((cap:Int)<(m:Int)+((1:Nat):Int))=False:=eq_false (by omega)
   have hm1:m+1≤N:=hm
   have htm:((m:Int)+((1:Nat):Int)).toNat=m+1:=by omega
   have hti:((i:Int)+((1:Nat):Int)).toNat=i+1:=by omega
   simp(disch:=first|omega|simp only[lzz0_];first|done|omega)only[ao_,aq_,go_sem,reduceEqDiff,reduceLeDiff,reduceCtorEq,↓reduceIte,hcf,htm,hti,hr,hv,hN,hm1,Nat.sub_zero,Nat.zero_add,la_,length_take,length_drop,lc_,ln_,f7_,if_pos]
   have hroom:=iP_ (lo:=0) (v:=v) hN (i:=i) (m:=m) (by omega) (by omega)
   simp only[Nat.zero_add]at hroom
   have hmidL:(List.take (m+1-(i+1)) (List.drop i (List.take (m+1) es)))=(es.take m).drop i:=if_ (by omega)
   repeat(refine And.intro (by first|assumption|omega|decide|(intro e he;rw[hmidL]at he;exact hc e he)|(intro e he;have:=mem_of_mem_take he;simp only[mem_singleton]at this;subst this;exact hvc)) ?_)
   refine bB_ _ _ b0_ ?_
   simp(disch:=first|omega|simp only[lzz0_];first|done|omega)only[go_sem,↓reduceIte,hroom,set_set]
   exact hk
 ·by_cases him:i=m
  ·subst him
   have e1:(es.take (lo+i)).drop (lo+i)=[]:=drop_eq_nil_of_le (by rw[length_take];omega)
   rw[e1,nil_append]at hk
   have e2:lo+i+1≤N:=hm
   simp(disch:=first|omega|simp only[lzz0_];first|done|omega)only[go_sem,reduceEqDiff,reduceLeDiff,reduceCtorEq,↓reduceIte,hL_,jB_,hr,hv,hN,hvc,e2,hlm,hlo,not_false_eq_true]
   refine⟨by omega,by omega,by decide,by omega,by omega,?_⟩
   refine bB_ _ _ b0_ ?_
   simp(disch:=first|omega|simp only[lzz0_];first|done|omega)only[go_sem,↓reduceIte]
   exact hk
  ·have him':((i:Int)=(m:Int))=False:=eq_false (by omega)
   simp(disch:=first|omega|simp only[lzz0_];first|done|omega)only[go_sem,reduceEqDiff,reduceCtorEq,↓reduceIte,hL_,jB_,hr,hv,hN,him',hlm]
   refine⟨by decide,fun cap hcap=>?_⟩
   have hcf:((cap:Int)<(m:Int)+((1:Nat):Int))=False:=eq_false (by omega)
   have hm1:lo+(m+1)≤N:=by omega
   have htm:((m:Int)+((1:Nat):Int)).toNat=m+1:=by omega
   have hti:((i:Int)+((1:Nat):Int)).toNat=i+1:=by omega
   have hlm2:lo+(m+1)-lo=m+1:=by omega
   simp(disch:=first|omega|simp only[lzz0_];first|done|omega)only[ao_,aq_,go_sem,reduceEqDiff,reduceLeDiff,reduceCtorEq,↓reduceIte,hcf,htm,hti,hr,hv,hN,hm1,hlm2,la_,length_take,length_drop,lc_,ln_,f7_,if_pos]
   have hroom:=iP_ (lo:=lo) (v:=v) hN (i:=i) (m:=m) (by omega) (by omega)
   have hmidL:List.take (lo+(m+1)-(lo+(i+1))) (List.drop (lo+i) (List.take (lo+(m+1)) es))=(es.take (lo+m)).drop (lo+i):=if_ (i:=lo+i) (m:=lo+m) (by omega)
   repeat(refine And.intro (by first|assumption|omega|decide|(intro e he;rw[hmidL]at he;exact hc e he)|(intro e he;have:=mem_of_mem_take he;simp only[mem_singleton]at this;subst this;exact hvc)) ?_)
   refine bB_ _ _ b0_ ?_
   simp(disch:=first|omega|simp only[lzz0_];first|done|omega)only[go_sem,↓reduceIte,hroom,set_set]
   exact hk
set_option maxHeartbeats 1000000 in
theorem fd_{l N lo m lv i:Nat}{H:List Row}{es:List (List AV)}{v:List AV}(hr:H[l]?=some ⟨.ty 2,1,es⟩)(hN:es.length=N)(hm:lo+m<N)(hi:i≤m)(hm2:lo+m≤1073741824)(hc:∀e∈(es.take (lo+m)).drop (lo+i),e.all AV.cell=true)(hv:H[lv]?=some ⟨.ty 2,1,[v]⟩)(hvc:v.all AV.cell=true)(hlv:lv≠l)
 {K:AV→List Row→Prop} (hk:K (.sub l N lo (lo+m+1)) (H.set l ⟨.ty 2,1,es.take (lo+i)++v::((es.take (lo+m)).drop (lo+i)++es.drop (lo+m+1))⟩)):callSem Tryz.prog 134 [.sub l N lo (lo+m),.val (.int .i64 i),.own lv 1] H K:=by
 refine aF_ mixed Tryz.func134 u0_ (a9_ rfl ?_)
 have hll:=(List.getElem?_eq_some_iff.1 hr).1
 have hvl:=(List.getElem?_eq_some_iff.1 hv).1
 have hlm:lo+m-lo=m:=by omega
 by_cases hlo:lo=0
 ·subst hlo
  simp only[Nat.zero_add]at *
  by_cases him:i=m
  ·subst him
   have e1:(es.take i).drop i=[]:=drop_eq_nil_of_le (by rw[length_take];omega)
   rw[e1,nil_append]at hk
   have e2:i+1≤N:=hm
   simp(disch:=first|omega|simp only[lzz0_];first|done|omega)only[go_sem,reduceEqDiff,reduceLeDiff,reduceCtorEq,↓reduceIte,hG_,jt_,hr,hv,hN,hvc,e2,Nat.sub_zero,Nat.zero_add]
   refine⟨by omega,by omega,by omega,?_⟩
   refine bB_ _ _ b0_ ?_
   simp(disch:=first|omega|simp only[lzz0_];first|done|omega)only[go_sem,↓reduceIte]
   exact hk
  ·have him':((i:Int)=(m:Int))=False:=eq_false (by omega)
   simp(disch:=first|omega|simp only[lzz0_];first|done|omega)only[go_sem,reduceEqDiff,reduceCtorEq,↓reduceIte,hG_,jt_,hr,hv,hN,him',Nat.sub_zero,Nat.zero_add]
   refine⟨by decide,fun cap hcap=>?_⟩
   have hcf:((cap:Int)<(m:Int)+((1:Nat):Int))=False:=eq_false (by omega)
   have hm1:m+1≤N:=hm
   have htm:((m:Int)+((1:Nat):Int)).toNat=m+1:=by omega
   have hti:((i:Int)+((1:Nat):Int)).toNat=i+1:=by omega
   simp(disch:=first|omega|simp only[lzz0_];first|done|omega)only[ao_,aq_,go_sem,reduceEqDiff,reduceLeDiff,reduceCtorEq,↓reduceIte,hcf,htm,hti,hr,hv,hN,hm1,Nat.sub_zero,Nat.zero_add,la_,length_take,length_drop,lc_,ln_,f7_,if_pos]
   have hroom:=iP_ (lo:=0) (v:=v) hN (i:=i) (m:=m) (by omega) (by omega)
   simp only[Nat.zero_add]at hroom
   have hmidL:(List.take (m+1-(i+1)) (List.drop i (List.take (m+1) es)))=(es.take m).drop i:=if_ (by omega)
   repeat(refine And.intro (by first|assumption|omega|decide|(intro e he;rw[hmidL]at he;exact hc e he)|(intro e he;have:=mem_of_mem_take he;simp only[mem_singleton]at this;subst this;exact hvc)) ?_)
   refine bB_ _ _ b0_ ?_
   simp(disch:=first|omega|simp only[lzz0_];first|done|omega)only[go_sem,↓reduceIte,hroom,set_set]
   exact hk
 ·by_cases him:i=m
  ·subst him
   have e1:(es.take (lo+i)).drop (lo+i)=[]:=drop_eq_nil_of_le (by rw[length_take];omega)
   rw[e1,nil_append]at hk
   have e2:lo+i+1≤N:=hm
   simp(disch:=first|omega|simp only[lzz0_];first|done|omega)only[go_sem,reduceEqDiff,reduceLeDiff,reduceCtorEq,↓reduceIte,hG_,jt_,hr,hv,hN,hvc,e2,hlm,hlo,not_false_eq_true]
   refine⟨by omega,by omega,by decide,by omega,by omega,?_⟩
   refine bB_ _ _ b0_ ?_
   simp(disch:=first|omega|simp only[lzz0_];first|done|omega)only[go_sem,↓reduceIte]
   exact hk
  ·have him':((i:Int)=(m:Int))=False:=eq_false (by omega)
   simp(disch:=first|omega|simp only[lzz0_];first|done|omega)only[go_sem,reduceEqDiff,reduceCtorEq,↓reduceIte,hG_,jt_,hr,hv,hN,him',hlm]
   refine⟨by decide,fun cap hcap=>?_⟩
   have hcf:((cap:Int)<(m:Int)+((1:Nat):Int))=False:=eq_false (by omega)
   have hm1:lo+(m+1)≤N:=by omega
   have htm:((m:Int)+((1:Nat):Int)).toNat=m+1:=by omega
   have hti:((i:Int)+((1:Nat):Int)).toNat=i+1:=by omega
   have hlm2:lo+(m+1)-lo=m+1:=by omega
   simp(disch:=first|omega|simp only[lzz0_];first|done|omega)only[ao_,aq_,go_sem,reduceEqDiff,reduceLeDiff,reduceCtorEq,↓reduceIte,hcf,htm,hti,hr,hv,hN,hm1,hlm2,la_,length_take,length_drop,lc_,ln_,f7_,if_pos]
   have hroom:=iP_ (lo:=lo) (v:=v) hN (i:=i) (m:=m) (by omega) (by omega)
   have hmidL:List.take (lo+(m+1)-(lo+(i+1))) (List.drop (lo+i) (List.take (lo+(m+1)) es))=(es.take (lo+m)).drop (lo+i):=if_ (i:=lo+i) (m:=lo+m) (by omega)
   repeat(refine And.intro (by first|assumption|omega|decide|(intro e he;rw[hmidL]at he;exact hc e he)|(intro e he;have:=mem_of_mem_take he;simp only[mem_singleton]at this;subst this;exact hvc)) ?_)
   refine bB_ _ _ b0_ ?_
   simp(disch:=first|omega|simp only[lzz0_];first|done|omega)only[go_sem,↓reduceIte,hroom,set_set]
   exact hk
theorem iL_{α:Type}{P Z T:List α}{v:α}{i cap M:Nat}(hP:P.length=i)(hi:i<cap)(hZ:Z.length=cap+1-i)(hT:T.length=cap-i)(hM:M=cap-i) :
 List.take (i+1) (List.take i (P++Z)++(List.take (cap+1-i) [v]++List.drop (i+min 1 (cap+1-i)) (P++Z))) ++
  (List.take (cap+1-(i+1)) T++List.drop (i+1+min M (cap+1-(i+1))) (List.take i (P++Z)++(List.take (cap+1-i) [v]++List.drop (i+min 1 (cap+1-i)) (P++Z))))=P++v::T:=by
 have e1:i+1+min M (cap+1-(i+1))=cap+1:=by omega
 have e2:i+min 1 (cap+1-i)=i+1:=by omega
 have e3:List.take (cap+1-i) [v]=[v]:=take_of_length_le (by simp;omega)
 have e5:List.take (cap+1-(i+1)) T=T:=take_of_length_le (by omega)
 have e6:List.take i (P++Z)=P:=take_left' hP
 have e7:∀W:List α,List.take (i+1) (P++([v]++W))=P++[v]:=fun W=>by
  rw[←append_assoc]
  exact take_left' (by rw[la_,hP];rfl)
 have e8:List.drop (cap+1) (P++([v]++List.drop (i+1) (P++Z)))=[]:=drop_eq_nil_of_le (by simp only[la_,length_drop,lc_,ln_,hZ,hP];omega)
 rw[e1,e2,e3,e5,e6,e7,e8,append_nil]
 simp
set_option maxHeartbeats 1000000 in
theorem hx_{l N lo lv i m:Nat}{H:List Row}{es:List (List AV)}{v:List AV}(hr:H[l]?=some ⟨.full 9,1,es⟩)(hN:es.length=N)(hm:lo+m=N)(hi:i≤m)(hm2:N≤1073741824)(hc:∀e∈es.drop (lo+i),e.all AV.cell=true)(hv:H[lv]?=some ⟨.ty 9,1,[v]⟩)(hvc:v.all AV.cell=true)(hlv:lv≠l)
 {K:AV→List Row→Prop} (hk:K (.own H.length (m+1)) (H++[⟨.ty 9,1,(es.drop lo).take i++v::es.drop (lo+i)⟩])):callSem Tryz.prog 133 [.sub l N lo N,.val (.int .i64 i),.own lv 1] H K:=by
 refine aF_ mixed Tryz.func133 t1_ (a9_ rfl ?_)
 have hll:=(List.getElem?_eq_some_iff.1 hr).1
 have hvl:=(List.getElem?_eq_some_iff.1 hv).1
 have hlm:N-lo=m:=by omega
 by_cases him:i=m
 ·subst him
  have e1:(es.drop lo).take i=es.drop lo:=take_of_length_le (by rw[length_drop];omega)
  have e2:es.drop (lo+i)=[]:=drop_eq_nil_of_le (by omega)
  have e3:es.take N=es:=take_of_length_le (by omega)
  rw[e1,e2]at hk
  by_cases hlo:lo=0
  ·subst hlo
   simp only[Nat.sub_zero,Nat.zero_add]at hlm hm
   subst hlm
   rw[drop_zero]at hk
   simp(disch:=first|omega|simp only[lzz0_];first|done|omega)only[go_sem,reduceEqDiff,reduceLeDiff,reduceCtorEq,↓reduceIte,hL_,jB_,hr,hv,hN,hvc,Nat.sub_zero,Nat.zero_add,e3]
   refine⟨by omega,by omega,by omega,?_⟩
   refine bB_ _ _ b0_ ?_
   simp(disch:=first|omega|simp only[lzz0_];first|done|omega)only[go_sem,↓reduceIte]
   exact hk
  ·simp(disch:=first|omega|simp only[lzz0_];first|done|omega)only[go_sem,reduceEqDiff,reduceLeDiff,reduceCtorEq,↓reduceIte,hL_,jB_,hr,hv,hN,hvc,hlm,hlo,not_false_eq_true,e3]
   refine⟨by omega,by decide,by omega,by omega,by omega,?_⟩
   refine bB_ _ _ b0_ ?_
   simp(disch:=first|omega|simp only[lzz0_];first|done|omega)only[go_sem,↓reduceIte]
   exact hk
 ·have him':((i:Int)=(m:Int))=False:=eq_false (by omega)
  by_cases hlo:lo=0
  ·subst hlo
   simp only[Nat.sub_zero,Nat.zero_add]at hlm hm
   subst hlm
   rw[drop_zero]at hk
   simp(disch:=first|omega|simp only[lzz0_];first|done|omega)only[go_sem,reduceEqDiff,reduceCtorEq,↓reduceIte,hL_,jB_,hr,hv,hN,him',Nat.sub_zero,Nat.zero_add]
   refine⟨by decide,fun cap hc1 hc2=>?_⟩
   subst hc2
   have hcf:((cap:Int)<(cap:Int)+((1:Nat):Int))=True:=eq_true (by omega)
   have htm:((cap:Int)+((1:Nat):Int)-(i:Int)).toNat=cap+1-i:=by omega
   have hti:((i:Int)+((1:Nat):Int)).toNat=i+1:=by omega
   have hn:i+(cap+1-i)=cap+1:=by omega
   simp(disch:=first|omega|simp only[lzz0_];first|done|omega)only[ad_,at_,go_sem,reduceEqDiff,reduceLeDiff,reduceCtorEq,↓reduceIte,hcf,htm,hti,hn,hr,hv,hN,Nat.sub_zero,Nat.zero_add,la_,length_take,length_drop,lc_,ln_,length_replicate,f7_,if_pos]
   have hcc:∀(e:List AV),e∈List.take (cap+1-(i+1)) (List.drop i (List.take cap es))→e.all AV.cell=true:=fun e he=>hc e (by
    have h1:=mem_of_mem_take he
    rw[take_of_length_le (by omega)]at h1
    rw[Nat.zero_add]
    exact h1)
   repeat(refine And.intro (by first|assumption|omega|decide|(intro e he;have he:=mem_of_mem_take he;rw[take_of_length_le (by omega)]at he;first|exact hc e he|exact hc e (Nat.zero_add i▸he))|(intro e he;have:=mem_of_mem_take he;simp only[mem_singleton]at this;subst this;exact hvc)) ?_)
   refine bB_ _ _ b0_ ?_
   simp(disch:=first|omega|simp only[lzz0_];first|done|omega)only[go_sem,↓reduceIte]
   rw[iL_ (P:=List.take i es) (T:=List.drop i (List.take cap es)) (by rw[length_take];omega) (by omega) length_replicate (by rw[length_drop,length_take];omega) (by omega),take_of_length_le (l:=es) (i:=cap) (by omega)]
   simpa using hk
  ·simp(disch:=first|omega|simp only[lzz0_];first|done|omega)only[go_sem,reduceEqDiff,reduceCtorEq,↓reduceIte,hL_,jB_,hr,hv,hN,him',hlm]
   refine⟨by decide,fun cap hc1 hc2=>?_⟩
   subst hc2
   have hcf:((cap:Int)<(cap:Int)+((1:Nat):Int))=True:=eq_true (by omega)
   have htm:((cap:Int)+((1:Nat):Int)-(i:Int)).toNat=cap+1-i:=by omega
   have hti:((i:Int)+((1:Nat):Int)).toNat=i+1:=by omega
   have hn:i+(cap+1-i)=cap+1:=by omega
   have hli:lo+i-lo=i:=by omega
   simp(disch:=first|omega|simp only[lzz0_];first|done|omega)only[ad_,at_,go_sem,reduceEqDiff,reduceLeDiff,reduceCtorEq,↓reduceIte,hcf,htm,hti,hn,hli,hr,hv,hN,hlm,hlo,not_false_eq_true,la_,length_take,length_drop,lc_,ln_,length_replicate,f7_,if_pos]
   repeat(refine And.intro (by first|assumption|omega|decide|(intro e he;have he:=mem_of_mem_take he;rw[take_of_length_le (by omega)]at he;first|exact hc e he|exact hc e (Nat.zero_add i▸he))|(intro e he;have:=mem_of_mem_take he;simp only[mem_singleton]at this;subst this;exact hvc)) ?_)
   refine bB_ _ _ b0_ ?_
   simp(disch:=first|omega|simp only[lzz0_];first|done|omega)only[go_sem,↓reduceIte]
   rw[iL_ (P:=List.drop lo (List.take (lo+i) es)) (T:=List.drop (lo+i) (List.take (lo+cap) es)) (by rw[length_drop,length_take];omega) (by omega) length_replicate (by rw[length_drop,length_take];omega) (by omega),take_of_length_le (l:=es) (i:=lo+cap) (by omega),drop_take,Nat.add_sub_cancel_left]
   exact hk
set_option maxHeartbeats 1000000 in
theorem h1_{l N lo lv i m:Nat}{H:List Row}{es:List (List AV)}{v:List AV}(hr:H[l]?=some ⟨.full 2,1,es⟩)(hN:es.length=N)(hm:lo+m=N)(hi:i≤m)(hm2:N≤1073741824)(hc:∀e∈es.drop (lo+i),e.all AV.cell=true)(hv:H[lv]?=some ⟨.ty 2,1,[v]⟩)(hvc:v.all AV.cell=true)(hlv:lv≠l)
 {K:AV→List Row→Prop} (hk:K (.own H.length (m+1)) (H++[⟨.ty 2,1,(es.drop lo).take i++v::es.drop (lo+i)⟩])):callSem Tryz.prog 134 [.sub l N lo N,.val (.int .i64 i),.own lv 1] H K:=by
 refine aF_ mixed Tryz.func134 u0_ (a9_ rfl ?_)
 have hll:=(List.getElem?_eq_some_iff.1 hr).1
 have hvl:=(List.getElem?_eq_some_iff.1 hv).1
 have hlm:N-lo=m:=by omega
 by_cases him:i=m
 ·subst him
  have e1:(es.drop lo).take i=es.drop lo:=take_of_length_le (by rw[length_drop];omega)
  have e2:es.drop (lo+i)=[]:=drop_eq_nil_of_le (by omega)
  have e3:es.take N=es:=take_of_length_le (by omega)
  rw[e1,e2]at hk
  by_cases hlo:lo=0
  ·subst hlo
   simp only[Nat.sub_zero,Nat.zero_add]at hlm hm
   subst hlm
   rw[drop_zero]at hk
   simp(disch:=first|omega|simp only[lzz0_];first|done|omega)only[go_sem,reduceEqDiff,reduceLeDiff,reduceCtorEq,↓reduceIte,hG_,jt_,hr,hv,hN,hvc,Nat.sub_zero,Nat.zero_add,e3]
   refine⟨by omega,by omega,by omega,?_⟩
   refine bB_ _ _ b0_ ?_
   simp(disch:=first|omega|simp only[lzz0_];first|done|omega)only[go_sem,↓reduceIte]
   exact hk
  ·simp(disch:=first|omega|simp only[lzz0_];first|done|omega)only[go_sem,reduceEqDiff,reduceLeDiff,reduceCtorEq,↓reduceIte,hG_,jt_,hr,hv,hN,hvc,hlm,hlo,not_false_eq_true,e3]
   refine⟨by omega,by decide,by omega,by omega,by omega,?_⟩
   refine bB_ _ _ b0_ ?_
   simp(disch:=first|omega|simp only[lzz0_];first|done|omega)only[go_sem,↓reduceIte]
   exact hk
 ·have him':((i:Int)=(m:Int))=False:=eq_false (by omega)
  by_cases hlo:lo=0
  ·subst hlo
   simp only[Nat.sub_zero,Nat.zero_add]at hlm hm
   subst hlm
   rw[drop_zero]at hk
   simp(disch:=first|omega|simp only[lzz0_];first|done|omega)only[go_sem,reduceEqDiff,reduceCtorEq,↓reduceIte,hG_,jt_,hr,hv,hN,him',Nat.sub_zero,Nat.zero_add]
   refine⟨by decide,fun cap hc1 hc2=>?_⟩
   subst hc2
   have hcf:((cap:Int)<(cap:Int)+((1:Nat):Int))=True:=eq_true (by omega)
   have htm:((cap:Int)+((1:Nat):Int)-(i:Int)).toNat=cap+1-i:=by omega
   have hti:((i:Int)+((1:Nat):Int)).toNat=i+1:=by omega
   have hn:i+(cap+1-i)=cap+1:=by omega
   simp(disch:=first|omega|simp only[lzz0_];first|done|omega)only[ad_,at_,go_sem,reduceEqDiff,reduceLeDiff,reduceCtorEq,↓reduceIte,hcf,htm,hti,hn,hr,hv,hN,Nat.sub_zero,Nat.zero_add,la_,length_take,length_drop,lc_,ln_,length_replicate,f7_,if_pos]
   have hcc:∀(e:List AV),e∈List.take (cap+1-(i+1)) (List.drop i (List.take cap es))→e.all AV.cell=true:=fun e he=>hc e (by
    have h1:=mem_of_mem_take he
    rw[take_of_length_le (by omega)]at h1
    rw[Nat.zero_add]
    exact h1)
   repeat(refine And.intro (by first|assumption|omega|decide|(intro e he;have he:=mem_of_mem_take he;rw[take_of_length_le (by omega)]at he;first|exact hc e he|exact hc e (Nat.zero_add i▸he))|(intro e he;have:=mem_of_mem_take he;simp only[mem_singleton]at this;subst this;exact hvc)) ?_)
   refine bB_ _ _ b0_ ?_
   simp(disch:=first|omega|simp only[lzz0_];first|done|omega)only[go_sem,↓reduceIte]
   rw[iL_ (P:=List.take i es) (T:=List.drop i (List.take cap es)) (by rw[length_take];omega) (by omega) length_replicate (by rw[length_drop,length_take];omega) (by omega),take_of_length_le (l:=es) (i:=cap) (by omega)]
   simpa using hk
  ·simp(disch:=first|omega|simp only[lzz0_];first|done|omega)only[go_sem,reduceEqDiff,reduceCtorEq,↓reduceIte,hG_,jt_,hr,hv,hN,him',hlm]
   refine⟨by decide,fun cap hc1 hc2=>?_⟩
   subst hc2
   have hcf:((cap:Int)<(cap:Int)+((1:Nat):Int))=True:=eq_true (by omega)
   have htm:((cap:Int)+((1:Nat):Int)-(i:Int)).toNat=cap+1-i:=by omega
   have hti:((i:Int)+((1:Nat):Int)).toNat=i+1:=by omega
   have hn:i+(cap+1-i)=cap+1:=by omega
   have hli:lo+i-lo=i:=by omega
   simp(disch:=first|omega|simp only[lzz0_];first|done|omega)only[ad_,at_,go_sem,reduceEqDiff,reduceLeDiff,reduceCtorEq,↓reduceIte,hcf,htm,hti,hn,hli,hr,hv,hN,hlm,hlo,not_false_eq_true,la_,length_take,length_drop,lc_,ln_,length_replicate,f7_,if_pos]
   repeat(refine And.intro (by first|assumption|omega|decide|(intro e he;have he:=mem_of_mem_take he;rw[take_of_length_le (by omega)]at he;first|exact hc e he|exact hc e (Nat.zero_add i▸he))|(intro e he;have:=mem_of_mem_take he;simp only[mem_singleton]at this;subst this;exact hvc)) ?_)
   refine bB_ _ _ b0_ ?_
   simp(disch:=first|omega|simp only[lzz0_];first|done|omega)only[go_sem,↓reduceIte]
   rw[iL_ (P:=List.drop lo (List.take (lo+i) es)) (T:=List.drop (lo+i) (List.take (lo+cap) es)) (by rw[length_drop,length_take];omega) (by omega) length_replicate (by rw[length_drop,length_take];omega) (by omega),take_of_length_le (l:=es) (i:=lo+cap) (by omega),drop_take,Nat.add_sub_cancel_left]
   exact hk
theorem bz_{l lv i mx:Nat}{H:List Row}{a:AV}{xs:List ByteArray}{v:ByteArray}(hp:aP_ H 9 1 a l (xs.map ag_))(hi:i≤xs.length)(hN:∀r,H[l]?=some r→r.es.length≤mx)(hmx:mx≤1073741823)(hv:H[lv]?=some ⟨.ty 9,1,[ag_ v]⟩)(hlv:lv≠l){K:AV→List Row→Prop}
 (hk:∀a' H' l',(l'=l∨H.length≤l')→l'<H'.length→H.length≤H'.length→(∀j,j<H.length→j≠l→H'[j]?=H[j]?)→aP_ H' 9 1 a' l' ((xs.take i++v::xs.drop i).map ag_)→(∀r,H'[l']?=some r→r.es.length≤mx+1)→K a' H'):callSem Tryz.prog 133 [a,.val (.int .i64 i),.own lv 1] H K:=by
 have hll:=hp.lt
 obtain⟨pre,post,rfl,hrow⟩:=hp
 have hN':=hN _ hrow
 simp only[la_,length_map]at hN'
 have hX:∀e∈(xs.drop i).map ag_,e.all AV.cell=true:=fun e he=>dQ_ xs e (by rw[map_drop]at he;exact mem_of_mem_drop he)
 have hvc:(ag_ v).all AV.cell=true:=rfl
 have t1:∀q:List (List AV),List.take (pre.length+i) (pre++(xs.map ag_++q))=pre++(xs.take i).map ag_:=fun q=>by
  rw[take_length_add_append,take_append_of_le_length (by simpa using hi),map_take]
 have t2:∀q:List (List AV),List.drop (pre.length+i) (List.take (pre.length+xs.length) (pre++(xs.map ag_++q)))=(xs.drop i).map ag_:=fun q=>by
  rw[take_length_add_append,take_append_of_le_length (by simp),take_of_length_le (by simp),drop_length_add_append,map_drop]
 have t3:∀(x:List AV) (q:List (List AV)),List.drop (pre.length+xs.length+1) (pre++(xs.map ag_++x::q))=q:=fun x q=>by
  rw[Nat.add_assoc,drop_length_add_append,show xs.length+1=(xs.map ag_).length+1 by simp,drop_length_add_append];rfl
 have t4:∀q:List (List AV),pre++(xs.take i).map ag_++ag_ v::((xs.drop i).map ag_++q)=pre++((xs.take i++v::xs.drop i).map ag_++q):=fun q=>by simp
 have hlen:(xs.take i++v::xs.drop i).length=xs.length+1:=by simp only[la_,length_take,lc_,length_drop];omega
 have e0:(xs.map ag_).length=xs.length:=by simp
 have e1:((xs.take i++v::xs.drop i).map ag_).length=xs.length+1:=by rw[length_map,hlen]
 refine callSem.weaken ?_
 rw[e0]
 cases post with
 | cons q post =>
  refine eV_ (lo:=pre.length) (m:=xs.length) (lv:=lv) hrow (by simp) (by simp only[lc_];omega) hi (by omega) (fun e he=>hX e (by rwa [t2]at he)) hv hvc hlv ?_
  rw[t1,t2,t3,t4]
  refine⟨_,bA_ _,hk _ _ l (.inl rfl) (by simpa using hll) (by simp) (fun j _ hne=>ao_ (Ne.symm hne)) ⟨pre,post,?_,aq_ hll⟩ (fun r hr=>?_)⟩
  ·rw[e1];congr 1<;>simp only[lc_]<;>omega
  ·rw[aq_ hll]at hr
   obtain rfl:=Option.some.inj hr
   simp only[la_,e1,lc_]at hN'⊢
   omega
 | nil =>
  rw[append_nil]at hrow
  have es1:pre.length+(xs.length+([]:List (List AV)).length)=pre.length+xs.length:=rfl
  rw[es1]
  refine lX_ hrow (by simp) (by decide) ?_ ?_
  ·have eq:pre++xs.map ag_++[List.replicate 1 AV.undef]=pre++(xs.map ag_++[List.replicate 1 AV.undef]):=append_assoc _ _ _
   rw[eq]
   refine eV_ (lo:=pre.length) (m:=xs.length) (lv:=lv) (aq_ hll) (by simp;omega) (by omega) hi (by omega) (fun e he=>hX e (by rwa [t2]at he)) (by rw[ao_ (Ne.symm hlv)];exact hv) hvc hlv ?_
   rw[t1,t2,t3,t4,set_set]
   refine⟨_,bA_ _,hk _ _ l (.inl rfl) (by simpa using hll) (by simp) (fun j _ hne=>ao_ (Ne.symm hne)) ⟨pre,[],?_,aq_ hll⟩ (fun r hr=>?_)⟩
   ·rw[e1];congr 1
   ·rw[aq_ hll]at hr
    obtain rfl:=Option.some.inj hr
    simp only[la_,e1,ln_]at hN'⊢
    omega
  ·refine hx_ (lo:=pre.length) (m:=xs.length) (N:=pre.length+xs.length) (lv:=lv) (aq_ hll) (by simp) rfl hi (by simp only[ln_]at hN';omega) (fun e he=>hX e ?_) (by rw[ao_ (Ne.symm hlv)];exact hv) hvc hlv ?_
   ·rw[drop_length_add_append,←map_drop]at he;exact he
   ·refine⟨by rw[ad_ (by simpa using hll)];exact aq_ hll,?_⟩
    rw[ls_,drop_left,drop_length_add_append,←map_take,←map_drop]
    have hst:∀r1 r2 r3:Row,H[l]?=some r3→(H.set l r1++[r2]).set l r3=H++[r2]:=fun r1 r2 r3 q=>by
     rw[set_append_left _ _ (by simpa using hll),set_set,lZ_ q]
    rw[hst _ _ _ hrow]
    have e5:(xs.take i).map ag_++ag_ v::(xs.drop i).map ag_=(xs.take i++v::xs.drop i).map ag_:=by simp
    rw[e5]
    refine⟨_,dY_ _ _,hk _ _ H.length (.inr (Nat.le_refl _)) (by simp) (by simp) (fun j hj _=>ad_ hj) ⟨[],[],?_,(by rw[append_nil,nil_append];exact at_ rfl)⟩ (fun r hr=>?_)⟩
    ·rw[e1];simp
    ·rw[at_ rfl]at hr
     obtain rfl:=Option.some.inj hr
     simp only[e1]at hN'⊢
     omega
theorem ep_{l lv i mx:Nat}{H:List Row}{a:AV}{xs:List Int}{v:Int}(hp:aP_ H 2 1 a l (xs.map ay_))(hi:i≤xs.length)(hN:∀r,H[l]?=some r→r.es.length≤mx)(hmx:mx≤1073741823)(hv:H[lv]?=some ⟨.ty 2,1,[ay_ v]⟩)(hlv:lv≠l){K:AV→List Row→Prop}
 (hk:∀a' H' l',(l'=l∨H.length≤l')→l'<H'.length→H.length≤H'.length→(∀j,j<H.length→j≠l→H'[j]?=H[j]?)→aP_ H' 2 1 a' l' ((xs.take i++v::xs.drop i).map ay_)→(∀r,H'[l']?=some r→r.es.length≤mx+1)→K a' H'):callSem Tryz.prog 134 [a,.val (.int .i64 i),.own lv 1] H K:=by
 have hll:=hp.lt
 obtain⟨pre,post,rfl,hrow⟩:=hp
 have hN':=hN _ hrow
 simp only[la_,length_map]at hN'
 have hX:∀e∈(xs.drop i).map ay_,e.all AV.cell=true:=fun e he=>dT_ xs e (by rw[map_drop]at he;exact mem_of_mem_drop he)
 have hvc:(ay_ v).all AV.cell=true:=rfl
 have t1:∀q:List (List AV),List.take (pre.length+i) (pre++(xs.map ay_++q))=pre++(xs.take i).map ay_:=fun q=>by
  rw[take_length_add_append,take_append_of_le_length (by simpa using hi),map_take]
 have t2:∀q:List (List AV),List.drop (pre.length+i) (List.take (pre.length+xs.length) (pre++(xs.map ay_++q)))=(xs.drop i).map ay_:=fun q=>by
  rw[take_length_add_append,take_append_of_le_length (by simp),take_of_length_le (by simp),drop_length_add_append,map_drop]
 have t3:∀(x:List AV) (q:List (List AV)),List.drop (pre.length+xs.length+1) (pre++(xs.map ay_++x::q))=q:=fun x q=>by
  rw[Nat.add_assoc,drop_length_add_append,show xs.length+1=(xs.map ay_).length+1 by simp,drop_length_add_append];rfl
 have t4:∀q:List (List AV),pre++(xs.take i).map ay_++ay_ v::((xs.drop i).map ay_++q)=pre++((xs.take i++v::xs.drop i).map ay_++q):=fun q=>by simp
 have hlen:(xs.take i++v::xs.drop i).length=xs.length+1:=by simp only[la_,length_take,lc_,length_drop];omega
 have e0:(xs.map ay_).length=xs.length:=by simp
 have e1:((xs.take i++v::xs.drop i).map ay_).length=xs.length+1:=by rw[length_map,hlen]
 refine callSem.weaken ?_
 rw[e0]
 cases post with
 | cons q post =>
  refine fd_ (lo:=pre.length) (m:=xs.length) (lv:=lv) hrow (by simp) (by simp only[lc_];omega) hi (by omega) (fun e he=>hX e (by rwa [t2]at he)) hv hvc hlv ?_
  rw[t1,t2,t3,t4]
  refine⟨_,bA_ _,hk _ _ l (.inl rfl) (by simpa using hll) (by simp) (fun j _ hne=>ao_ (Ne.symm hne)) ⟨pre,post,?_,aq_ hll⟩ (fun r hr=>?_)⟩
  ·rw[e1];congr 1<;>simp only[lc_]<;>omega
  ·rw[aq_ hll]at hr
   obtain rfl:=Option.some.inj hr
   simp only[la_,e1,lc_]at hN'⊢
   omega
 | nil =>
  rw[append_nil]at hrow
  have es1:pre.length+(xs.length+([]:List (List AV)).length)=pre.length+xs.length:=rfl
  rw[es1]
  refine lX_ hrow (by simp) (by decide) ?_ ?_
  ·have eq:pre++xs.map ay_++[List.replicate 1 AV.undef]=pre++(xs.map ay_++[List.replicate 1 AV.undef]):=append_assoc _ _ _
   rw[eq]
   refine fd_ (lo:=pre.length) (m:=xs.length) (lv:=lv) (aq_ hll) (by simp;omega) (by omega) hi (by omega) (fun e he=>hX e (by rwa [t2]at he)) (by rw[ao_ (Ne.symm hlv)];exact hv) hvc hlv ?_
   rw[t1,t2,t3,t4,set_set]
   refine⟨_,bA_ _,hk _ _ l (.inl rfl) (by simpa using hll) (by simp) (fun j _ hne=>ao_ (Ne.symm hne)) ⟨pre,[],?_,aq_ hll⟩ (fun r hr=>?_)⟩
   ·rw[e1];congr 1
   ·rw[aq_ hll]at hr
    obtain rfl:=Option.some.inj hr
    simp only[la_,e1,ln_]at hN'⊢
    omega
  ·refine h1_ (lo:=pre.length) (m:=xs.length) (N:=pre.length+xs.length) (lv:=lv) (aq_ hll) (by simp) rfl hi (by simp only[ln_]at hN';omega) (fun e he=>hX e ?_) (by rw[ao_ (Ne.symm hlv)];exact hv) hvc hlv ?_
   ·rw[drop_length_add_append,←map_drop]at he;exact he
   ·refine⟨by rw[ad_ (by simpa using hll)];exact aq_ hll,?_⟩
    rw[ls_,drop_left,drop_length_add_append,←map_take,←map_drop]
    have hst:∀r1 r2 r3:Row,H[l]?=some r3→(H.set l r1++[r2]).set l r3=H++[r2]:=fun r1 r2 r3 q=>by
     rw[set_append_left _ _ (by simpa using hll),set_set,lZ_ q]
    rw[hst _ _ _ hrow]
    have e5:(xs.take i).map ay_++ay_ v::(xs.drop i).map ay_=(xs.take i++v::xs.drop i).map ay_:=by simp
    rw[e5]
    refine⟨_,dY_ _ _,hk _ _ H.length (.inr (Nat.le_refl _)) (by simp) (by simp) (fun j hj _=>ad_ hj) ⟨[],[],?_,(by rw[append_nil,nil_append];exact at_ rfl)⟩ (fun r hr=>?_)⟩
    ·rw[e1];simp
    ·rw[at_ rfl]at hr
     obtain rfl:=Option.some.inj hr
     simp only[e1]at hN'⊢
     omega
def PB.all(T M:Nat)(B:List PB):List Nat:=T::M::B.flatMap PB.foot
theorem ca_(T M:Nat)(B1 B2:List PB)(x:PB):(PB.all T M (B1++x::B2)).Perm (x.foot++PB.all T M (B1++B2)):=by
 have e1:PB.all T M (B1++x::B2)=(T::M::B1.flatMap PB.foot)++(x.foot++B2.flatMap PB.foot):=by simp[PB.all]
 have e2:PB.all T M (B1++B2)=(T::M::B1.flatMap PB.foot)++B2.flatMap PB.foot:=by simp[PB.all]
 rw[e1,e2]
 exact perm_append_comm_assoc _ _ _
section
variable {H H' : List Row} {T M : Nat} {root : Int} {B B1 B2 : List PB} {ents : List (Int × Nat × AV)} {ck lo : Nat}
theorem Pg.upd{x x':PB}(g:Pg H T M root (B1++x::B2) ents ck lo)(hid:x'.id=x.id)(hb:x'.b=x.b)(hk:∀l,l<H.length→l∉x.foot→H'[l]?=H[l]?)(hl:H.length≤H'.length)(hf:∀l∈x'.foot,l∈x.foot∨(H.length≤l∧l<H'.length))(h1:x'.foot.Nodup)
 (hp:gw_ H' x'.b x'.pg x'.k x'.v x'.d):Pg H' T M root (B1++x'::B2) ents ck lo:=by
 have hone:(PB.all T M (B1++x::B2)).Nodup:=g.one
 rw[(ca_ T M B1 B2 x).nodup_iff,nodup_append]at hone
 obtain⟨n1,n2,n3⟩:=hone
 have hmem:∀l,l∈PB.all T M (B1++B2)→l∈T::M::(B1++x::B2).flatMap PB.foot:=fun l hl=>(ca_ T M B1 B2 x).mem_iff.2 (mem_append_right _ hl)
 have hkeep:∀l∈PB.all T M (B1++B2),H'[l]?=H[l]?:=fun l hl=>hk l (g.lows l (hmem l hl)).2 (fun q=>n3 l q l hl rfl)
 have hTk:=hkeep T (by simp[PB.all])
 have hMk:=hkeep M (by simp[PB.all])
 have hothers:∀y∈B1++B2,∀l∈y.foot,l∈PB.all T M (B1++B2):=fun y hy l hl=>Pg.mem_foot hy hl
 refine⟨by rw[hTk];exact g.box,by rw[hMk];exact g.map,⟨?_,g.ents.born,g.ents.old⟩,fun y hy=>?_,?_,?_,fun l hl2=>?_⟩
 ·rw[g.ents.same]
  simp[hid,hb]
 ·have hcase:y=x'∨y∈B1++B2:=by
   rcases mem_append.1 hy with q|q
   ·exact .inr (mem_append_left _ q)
   ·rcases mem_cons.1 q with q|q
    ·exact .inl q
    ·exact .inr (mem_append_right _ q)
  rcases hcase with rfl|q
  ·exact hp
  ·have hy2:y∈B1++x::B2:=by
    rcases mem_append.1 q with z|z
    ·exact mem_append_left _ z
    ·exact mem_append_right _ (mem_cons_of_mem _ z)
   have hh:=fun l hl=>hkeep l (hothers y q l hl)
   exact(g.pgs y hy2).keep (hh _ (by simp[PB.foot])) (hh _ (by simp[PB.foot])) (hh _ (by simp[PB.foot])) (hh _ (by simp[PB.foot]))
 ·show(PB.all T M (B1++x'::B2)).Nodup
  rw[(ca_ T M B1 B2 x').nodup_iff,nodup_append]
  refine⟨h1,n2,fun a ha b hb2 e=>?_⟩
  subst e
  rcases hf a ha with q|q
  ·exact n3 a q a hb2 rfl
  ·have:=(g.lows a (hmem a hb2)).2
   omega
 ·have:=g.ids
  simpa[hid]using this
 ·have hl3:=(ca_ T M B1 B2 x').mem_iff.1 (show l∈PB.all T M (B1++x'::B2)from hl2)
  rcases mem_append.1 hl3 with q|q
  ·rcases hf l q with z|z
   ·have:=g.lows l ((ca_ T M B1 B2 x).mem_iff.2 (mem_append_left _ z))
    omega
   ·have:=g.lows T (by simp)
    omega
  ·have:=g.lows l (hmem l q)
   omega
theorem Pg.reroot(g:Pg H T M root B ents ck lo){root':Int}:Pg (H.set T ⟨.ty 93,2,[[.val (.int .i64 root'),.mp M]]⟩) T M root' B ents ck lo:=by
 have hT:=(g.lows T (by simp)).2
 have hone:=g.one
 have hne:∀l∈M::B.flatMap PB.foot,(H.set T ⟨.ty 93,2,[[.val (.int .i64 root'),.mp M]]⟩)[l]?=H[l]?:=fun l hl=>getElem?_set_ne (fun e:T=l=>(nodup_cons.1 hone).1 (by rw[e];exact hl))
 refine⟨getElem?_set_self hT,by rw[hne M (by simp)];exact g.map,g.ents,fun x hx=>?_,g.one,g.ids,fun l hl=>by simpa using g.lows l hl⟩
 have hh:∀l∈x.foot,(H.set T ⟨.ty 93,2,[[.val (.int .i64 root'),.mp M]]⟩)[l]?=H[l]?:=fun l hl=>hne l (mem_cons_of_mem _ (mem_flatMap.2 ⟨x,hx,hl⟩))
 exact(g.pgs x hx).keep (hh _ (by simp[PB.foot])) (hh _ (by simp[PB.foot])) (hh _ (by simp[PB.foot])) (hh _ (by simp[PB.foot]))
end
theorem wx_(a:List ab_)(s:ab_)(id:Int):aj_ (a++[s]) id=match aj_ a id with|some p=>some p|none=>if s.Id=id then some s.Page else none:=by
 induction a with
 | nil=>rw[nil_append,bM_,jD_]
 | cons e a ih =>
  rw[cons_append,bM_,bM_,ih]
  by_cases h:e.Id=id
  ·rw[if_pos h,if_pos h]
  ·rw[if_neg h,if_neg h]
theorem va_{B1 B2:List PB}{x x':PB}(hid:x'.id=x.id)(hn:((B1++x::B2).map PB.id).Nodup)(id:Int):aj_ ((B1++x'::B2).map PB.slot) id=if x.id=id then some x'.pg else aj_ ((B1++x::B2).map PB.slot) id:=by
 induction B1 with
 | nil =>
  simp only[nil_append,map_cons,bM_]
  have e1:(PB.slot x').Id=x.id:=hid
  have e2:(PB.slot x).Id=x.id:=rfl
  rw[e1,e2]
  split<;>rfl
 | cons y B1 ih =>
  simp only[cons_append,map_cons,bM_]at hn⊢
  obtain⟨h1,h2⟩:=nodup_cons.1 hn
  rw[ih h2]
  have hne:¬ (PB.slot y).Id=x.id:=fun e=>h1 (by rw[show y.id=x.id from e];simp)
  by_cases h:(PB.slot y).Id=id
  ·rw[if_pos h,if_pos h,if_neg (fun e=>hne (h.trans e.symm))]
  ·rw[if_neg h,if_neg h]
structure PgS(H:List Row)(T M:Nat)(root:Int)(B:List PB)(lo mx:Nat)(sl:List ab_):Prop where
 pg:∃ents ck,Pg H T M root B ents ck lo
 same:∀id,aj_ (B.map PB.slot) id=aj_ sl id
 lim:Lim H (PB.all T M B) mx
structure cH_(T M:Nat)(H:List Row)(B:List PB)(H':List Row)(B':List PB):Prop where
 len:H.length≤H'.length
 kept:∀l,l<H.length→l∉PB.all T M B→H'[l]?=H[l]?
 foot:∀l∈PB.all T M B',l∈PB.all T M B∨H.length≤l
 keeps:∀y∈B,∃y'∈B',y'.id=y.id∧y'.b=y.b
theorem cH_.refl(T M:Nat)(H:List Row)(B:List PB):cH_ T M H B H B:=⟨Nat.le_refl _,fun _ _ _=>rfl,fun _ h=>.inl h,fun y hy=>⟨y,hy,rfl,rfl⟩⟩
theorem cH_.trans{T M:Nat}{H H1 H2:List Row}{B B1 B2:List PB}(a:cH_ T M H B H1 B1)(b:cH_ T M H1 B1 H2 B2):cH_ T M H B H2 B2:=by
 have l1:=a.len
 have l2:=b.len
 refine⟨by omega,fun l hl hn=>?_,fun l hl=>?_,fun y hy=>?_⟩
 ·rw[b.kept l (by omega) (fun q=>?_),a.kept l hl hn]
  rcases a.foot l q with z|z
  ·exact hn z
  ·omega
 ·rcases b.foot l hl with z|z
  ·exact a.foot l z
  ·exact .inr (by omega)
 ·obtain⟨y1,h1,h2,h3⟩:=a.keeps y hy
  obtain⟨y2,h4,h5,h6⟩:=b.keeps y1 h1
  exact⟨y2,h4,h5.trans h2,h6.trans h3⟩
theorem cH_.more{T M:Nat}{H H1:List Row}{B:List PB}(m:bd_ H H1):cH_ T M H B H1 B:=⟨m.len,fun l hl _=>m.kept l hl,fun _ h=>.inl h,fun y hy=>⟨y,hy,rfl,rfl⟩⟩
theorem PgS.more{H H1:List Row}{T M:Nat}{root:Int}{B:List PB}{lo mx:Nat}{sl:List ab_}(g:PgS H T M root B lo mx sl)(m:bd_ H H1):PgS H1 T M root B lo mx sl:=by
 obtain⟨⟨ents,ck,g0⟩,g1,g2⟩:=g
 exact⟨⟨ents,ck,g0.more m⟩,g1,fun l hl r hr=>g2 l hl r (by rw[←m.kept l (g0.lows l hl).2];exact hr)⟩
theorem PgS.find{H:List Row}{T M:Nat}{root:Int}{B:List PB}{lo mx:Nat}{sl:List ab_}(g:PgS H T M root B lo mx sl){id:Int}{p:am_}(hp:aj_ sl id=some p):∃B1 x B2,B=B1++x::B2∧x.id=id∧x.pg=p:=by
 rw[←g.same,et_]at hp
 cases h:B.find? (fun x=>x.id==id)with
 | none=>rw[h]at hp;cases hp
 | some x =>
  rw[h]at hp
  have h1:=mem_of_find?_eq_some h
  have h2:=find?_some h
  obtain⟨B1,B2,e⟩:=append_of_mem h1
  exact⟨B1,x,B2,e,by simpa using h2,Option.some.inj hp⟩
theorem PgS.box{H:List Row}{T M:Nat}{root:Int}{B:List PB}{lo mx:Nat}{sl:List ab_}(g:PgS H T M root B lo mx sl){x:PB}(hx:x∈B):aj_ sl x.id=some x.pg:=by
 obtain⟨ents,ck,g0⟩:=g.pg
 rw[←g.same,et_]
 have hn:=g0.ids
 have:B.find? (fun y=>y.id==x.id)=some x:=by
  clear g g0
  induction B with
  | nil=>cases hx
  | cons y B ih =>
   rw[find?_cons]
   rw[map_cons,nodup_cons]at hn
   rcases mem_cons.1 hx with q|q
   ·rw[q];simp
   ·have:(y.id==x.id)=false:=by
     rw[beq_eq_false_iff_ne]
     intro e
     exact hn.1 (e▸mem_map_of_mem q)
    rw[this]
    exact ih q hn.2
 rw[this];rfl
theorem PgS.upd{H H':List Row}{T M:Nat}{root:Int}{B1 B2:List PB}{lo mx mx':Nat}{sl:List ab_}{x x':PB}(g:PgS H T M root (B1++x::B2) lo mx sl)(hrise:ed_ sl)(hid:x'.id=x.id)(hb:x'.b=x.b)(hk:∀l,l<H.length→l∉x.foot→H'[l]?=H[l]?)(hl:H.length≤H'.length)(hf:∀l∈x'.foot,l∈x.foot∨(H.length≤l∧l<H'.length))(h1:x'.foot.Nodup)
 (hp:gw_ H' x'.b x'.pg x'.k x'.v x'.d) (hmx:mx≤mx') (hlim:Lim H' x'.foot mx'):PgS H' T M root (B1++x'::B2) lo mx' (ax_ ⟨x.id,x'.pg⟩ false sl)∧cH_ T M H (B1++x::B2) H' (B1++x'::B2):=by
 obtain⟨⟨ents,ck,g0⟩,g1,g2⟩:=g
 have gu:=g0.upd (H':=H') (x':=x') hid hb hk hl hf h1 hp
 have hone:(PB.all T M (B1++x::B2)).Nodup:=g0.one
 rw[(ca_ T M B1 B2 x).nodup_iff,nodup_append]at hone
 obtain⟨n1,n2,n3⟩:=hone
 have hmem:∀l,l∈PB.all T M (B1++B2)→l∈PB.all T M (B1++x::B2):=fun l hl=>(ca_ T M B1 B2 x).mem_iff.2 (mem_append_right _ hl)
 refine⟨⟨⟨ents,ck,gu⟩,fun id=>?_,fun l hl2 r hr=>?_⟩,hl,fun l hl2 hn=>hk l hl2 (fun q=>hn ((ca_ T M B1 B2 x).mem_iff.2 (mem_append_left _ q))),fun l hl2=>?_,fun y hy=>?_⟩
 ·rw[va_ hid g0.ids,cr_ hrise,g1]
 ·rcases mem_append.1 ((ca_ T M B1 B2 x').mem_iff.1 hl2)with q|q
  ·exact hlim l q r hr
  ·rw[hk l (g0.lows l (hmem l q)).2 (fun z=>n3 l z l q rfl)]at hr
   exact Nat.le_trans (g2 l (hmem l q) r hr) hmx
 ·rcases mem_append.1 ((ca_ T M B1 B2 x').mem_iff.1 hl2)with q|q
  ·rcases hf l q with z|z
   ·exact .inl ((ca_ T M B1 B2 x).mem_iff.2 (mem_append_left _ z))
   ·exact .inr z.1
  ·exact .inl (hmem l q)
 ·rcases mem_append.1 hy with q|q
  ·exact⟨y,mem_append_left _ q,rfl,rfl⟩
  ·rcases mem_cons.1 q with rfl|q
   ·exact⟨x',by simp,hid,hb⟩
   ·exact⟨y,mem_append_right _ (mem_cons_of_mem _ q),rfl,rfl⟩
theorem Pg.add2{H H':List Row}{T M:Nat}{root:Int}{B:List PB}{ents:List (Int×Nat×AV)}{ck lo:Nat}(g:Pg H T M root B ents ck lo){x:PB}(hk:∀l,l<H.length→l≠M→H'[l]?=H[l]?)(hl:H.length≤H'.length)(hn:∀l∈x.foot,lo≤l∧l<H'.length∧l∉PB.all T M B)(h1:x.foot.Nodup)(hid:x.id∉B.map PB.id)
 (hp:gw_ H' x.b x.pg x.k x.v x.d) (hm:H'[M]?=some ⟨.pmap (ents++[(x.id,ck,.ptr x.b 1 0 0)]) (ck+1),0,[]⟩):Pg H' T M root (B++[x]) (ents++[(x.id,ck,.ptr x.b 1 0 0)]) (ck+1) lo:=by
 have hone:=g.one
 have hTM:T≠M:=by
  intro e
  have:=(nodup_cons.1 hone).1
  exact this (by simp[e])
 have hMB:∀y∈B,∀l∈y.foot,l≠M:=by
  intro y hy l hl2 e
  have:=(nodup_cons.1 (nodup_cons.1 hone).2).1
  exact this (by rw[←e];exact mem_flatMap.2 ⟨y,hy,hl2⟩)
 have hall:T::M::(B++[x]).flatMap PB.foot=(T::M::B.flatMap PB.foot)++x.foot:=by simp
 refine⟨by rw[hk T (g.lows T (by simp)).2 hTM];exact g.box,hm,⟨by simp[g.ents.same],?_,?_⟩,fun y hy=>?_,?_,?_,fun l hl2=>?_⟩
 ·rw[map_append,nodup_append]
  refine⟨g.ents.born,by simp,fun a ha b hb e=>?_⟩
  simp only[map_cons,map_nil,mem_singleton]at hb
  obtain⟨q,hq,rfl⟩:=mem_map.1 ha
  have:=g.ents.old q hq
  omega
 ·intro e he
  rcases mem_append.1 he with q|q
  ·have:=g.ents.old e q;omega
  ·simp only[mem_singleton]at q;subst q;exact Nat.lt_succ_self _
 ·rcases mem_append.1 hy with q|q
  ·have hh:∀l∈y.foot,H'[l]?=H[l]?:=fun l hl2=>hk l (g.lows l (Pg.mem_foot q hl2)).2 (hMB y q l hl2)
   exact(g.pgs y q).keep (hh _ (by simp[PB.foot])) (hh _ (by simp[PB.foot])) (hh _ (by simp[PB.foot])) (hh _ (by simp[PB.foot]))
  ·simp only[mem_singleton]at q;subst q;exact hp
 ·rw[hall,nodup_append]
  refine⟨hone,h1,fun a ha b hb e=>?_⟩
  subst e
  exact(hn a hb).2.2 ha
 ·rw[map_append,nodup_append]
  refine⟨g.ids,by simp,fun a ha b hb e=>?_⟩
  simp only[map_cons,map_nil,mem_singleton]at hb
  subst hb
  exact hid (e▸ha)
 ·rw[hall]at hl2
  rcases mem_append.1 hl2 with q|q
  ·have:=g.lows l q;omega
  ·exact⟨(hn l q).1,(hn l q).2.1⟩
theorem PgS.add{H H':List Row}{T M:Nat}{root:Int}{B:List PB}{lo mx mx':Nat}{sl:List ab_}{x:PB}(g:PgS H T M root B lo mx sl)(hrise:ed_ sl)(hn:aj_ sl x.id=none)(hk:∀l,l<H.length→l≠M→H'[l]?=H[l]?)(hl:H.length≤H'.length)(hf:∀l∈x.foot,lo≤l∧l<H'.length∧l∉PB.all T M B)(h1:x.foot.Nodup)
 (hp:gw_ H' x.b x.pg x.k x.v x.d) (hm:∀ents ck,H[M]?=some ⟨.pmap ents ck,0,[]⟩→H'[M]?=some ⟨.pmap (ents++[(x.id,ck,.ptr x.b 1 0 0)]) (ck+1),0,[]⟩) (hmx:mx≤mx') (hlim:Lim H' x.foot mx') :
 PgS H' T M root (B++[x]) lo mx' (ax_ ⟨x.id,x.pg⟩ false sl):=by
 obtain⟨⟨ents,ck,g0⟩,g1,g2⟩:=g
 have hnid:x.id∉B.map PB.id:=by
  intro q
  obtain⟨y,hy,e⟩:=mem_map.1 q
  have:=PgS.box ⟨⟨ents,ck,g0⟩,g1,g2⟩ hy
  rw[e,hn]at this;cases this
 have ga:=g0.add2 (H':=H') (x:=x) hk hl hf h1 hnid hp (hm _ _ g0.map)
 have hall:PB.all T M (B++[x])=PB.all T M B++x.foot:=by simp[PB.all]
 refine⟨⟨_,_,ga⟩,fun id=>?_,fun l hl2 r hr=>?_⟩
 ·rw[map_append,map_cons,map_nil,wx_,g1,cr_ hrise]
  have e:(PB.slot x).Id=x.id:=rfl
  rw[e]
  by_cases h:x.id=id
  ·rw[if_pos h,if_pos h,←h,hn];rfl
  ·rw[if_neg h,if_neg h]
   cases aj_ sl id<;>rfl
 ·rw[hall]at hl2
  rcases mem_append.1 hl2 with q|q
  ·by_cases e:l=M
   ·subst e
    rw[hm _ _ g0.map]at hr
    obtain rfl:=Option.some.inj hr
    simp
   ·rw[hk l (g0.lows l q).2 e]at hr
    exact Nat.le_trans (g2 l q r hr) hmx
  ·exact hlim l q r hr
theorem cH_.add{T M:Nat}{H0 H H':List Row}{B0 B:List PB}{x:PB}(a:cH_ T M H0 B0 H B)(hk:∀l,l<H.length→l≠M→H'[l]?=H[l]?)(hl:H.length≤H'.length)(hf:∀l∈x.foot,H0.length≤l):cH_ T M H0 B0 H' (B++[x]):=by
 have l1:=a.len
 have hall:PB.all T M (B++[x])=PB.all T M B++x.foot:=by simp[PB.all]
 refine⟨by omega,fun l hl2 hn=>?_,fun l hl2=>?_,fun y hy=>?_⟩
 ·rw[hk l (by omega) (fun e=>hn (by rw[e];simp[PB.all])),a.kept l hl2 hn]
 ·rw[hall]at hl2
  rcases mem_append.1 hl2 with q|q
  ·exact a.foot l q
  ·exact .inr (hf l q)
 ·obtain⟨y1,h1,h2,h3⟩:=a.keeps y hy
  exact⟨y1,mem_append_left _ h1,h2,h3⟩
theorem aP_.cut{H:List Row}{E l:Nat}{α:Type}{f:α→List AV}{xs:List α}{pre post:List (List AV)}(n m:Nat)(hm:xs.length=m)(hn:n≤m)(h:H[l]?=some ⟨.ty E,1,pre++(xs.map f++post)⟩):aP_ H E 1 (.sub l (pre.length+(m+post.length)) pre.length (pre.length+n)) l ((xs.take n).map f):=by
 subst hm
 refine⟨pre,(xs.drop n).map f++post,?_,?_⟩
 ·simp only[la_,length_map,length_take,length_drop]
  congr 1<;>omega
 ·rw[←append_assoc ((xs.take n).map f),←map_append,take_append_drop];exact h
theorem aP_.all{H:List Row}{E l m:Nat}{α:Type}{f:α→List AV}{xs:List α}(hm:xs.length=m)(h:H[l]?=some ⟨.ty E,1,xs.map f⟩):aP_ H E 1 (.sub l m 0 m) l (xs.map f):=by
 subst hm
 exact hO_ h
theorem callSem.nilrow{P:Program}{f:FuncId}{args args':List AV}{h:List Row}{K:AV→List Row→Prop}(E:TypeId)(sz:Nat)(hc:∀S S' xs,S.le S'→Rep S' (.sub h.length 0 0 0) (.slice none 0 0)→ae_ S args xs→ae_ S' args' xs)(c:callSem P f args' (h++[⟨.ty E,sz,[]⟩]) K):callSem P f args h K:=by
 intro S w vals hm hgl hr
 obtain⟨S',st,hm',hrel⟩:=kE_ (N:=1) (t:=fun _=>AV.val (.slice none 0 0)) (t':=fun _=>AV.own h.length 0) (h:=h) (h':=h++[⟨.ty E,sz,[]⟩]) (.ty E) ⟨E,rfl⟩ sz (fun k=>.inr ⟨rfl,rfl⟩) (by simp) (by rw[getElem?_append_right (Nat.le_refl _),Nat.sub_self];rfl) (fun l r' hl hr=>⟨r',by rwa [getElem?_append_left hl]at hr,rfl,rfl,d6_.refl _ _⟩) S w { tmps:=#[.slice none 0 0],defers:=[] } hm ⟨rfl,rfl,fun k hk=>by
  have:k=0:=by omega
  subst this
  simp[Rep]⟩
 have h0:=hrel.2.2 0 (by omega)
 have h1:Rep S' (.own h.length 0) (.slice none 0 0):=by simpa using h0
 have h2:Rep S' (.sub h.length 0 0 0) (.slice none 0 0):=h1.own_sub
 refine(c S' w vals hm' (cE_.up st.le hgl) (hc S S' _ st.le h2 hr)).mono ?_
 rintro e w' ⟨v,av,S2,h2',rfl,st2,hm2,rv,hk⟩
 exact⟨v,av,S2,h2',rfl,st.trans st2,hm2,rv,hk⟩
end Go.Proofs.YtlcmlgihlojdmaaGreatDoor
